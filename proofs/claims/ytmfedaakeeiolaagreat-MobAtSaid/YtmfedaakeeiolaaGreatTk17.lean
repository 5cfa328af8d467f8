/- EyB, EyC, EyD, EyE, MayP, Rs4. -/
import Derived.Test.YtmfedaakeeiolaaGreatTk16
set_option linter.unnecessarySimpa false
set_option linter.unusedVariables false
set_option linter.unusedSimpArgs false
section
namespace Go.Proofs.YtmfedaakeeiolaaGreat.Y
open Go Go.RowKit
set_option maxRecDepth 100000
abbrev lsX (l:List Lf):List Lf:=l
def Spec.ofX {P:Program} (S:Spec P) (ho:S.obs=[]) (hn:S.news=[]):Spec P:=S
def BY (n:Int) (w:World) (g:Pl):Prop:=(∀ c,g.F c↔c=g.b)∧Byt w (.slice (some ⟨g.b,0,none⟩) (led n.natAbs).length (led n.natAbs).length) (led n.natAbs).reverse
theorem by_stable (n:Int):Stable (BY n) :=
 ⟨fun w g ⟨h,k⟩ c hc=>by rw [(h c).1 hc]; exact k.open_.2.2.1,fun w w' g ⟨h,k⟩ hb=>⟨h,k.on hb⟩,
  fun w w' g b o m n ⟨h,k⟩ hs ht hne=>⟨h,by
   obtain ⟨h0,b',cap,cs,t,fr,h1,h2,h3⟩:=k
   have hb:g.b=b':=by injection h1 with h1 _ _; cases Option.some.inj h1; rfl
   subst hb
   exact ⟨h0,g.b,cap,cs,t,fr,h1,by rw [ht.block g.b (heap_some_lt h2) fun e=>hne ((h b).2 e.symm)]; exact h2,h3⟩⟩⟩
def bytT (n:Int):Thing:=thing (BY n) (by_stable n)
theorem extE_s (β:Env) (n a b:Nat) (g:Pl):(SV.one (.c (.b (.s n 0 a b)))).den (extE β n [g])=.slice (some ⟨g.b,0,none⟩) a b:=by
 have:=extE_in (β:=β) (n:=n) (i:=0) (xs:=[g]) rfl
 rw [Nat.add_zero] at this
 simp only [SV.den,SC.den,Lf.den,Lf0.den,this]
def nBytes {n:Int} (hn:sz n≤KB):Ev Tryz.prog:=dyn1 fun k m=>.call 304 Tryz.call304 (fun β=>#[.pointer ((β k).v 0)]) [(k,(intT n).ob)] m (.one (.c (.b (.s m 0 (led n.natAbs).length (led n.natAbs).length)))) [bytT n] (fun β w h=>by
 obtain ⟨a,ha,ka⟩:=needI (n:=n) (k:=k) h (by simp)
 simp only [ha.1]
 refine (Bytes_at ka (okn_sz hn)).mono fun e w' ⟨g,he,h1,h2,h3⟩=>⟨[newPl g],fun x hx c hc=>?_,by rw [he,extE_s]; rfl,⟨⟨fun _=>Iff.rfl,h2⟩,trivial⟩,h3⟩
 obtain rfl:=List.mem_singleton.1 hx
 rw [((newPl_one g).1 c).1 hc]
 exact .inl h1)
def slOf:SV→Nat
 | .one (.c (.b (.s k _ _ _)))=>k
 | _=>0
def rdStr (d t:Nat) (n:Int) (k:Nat):Ev Tryz.prog:=.rd d (.convert 343 9 (.tmp t)) (fun β=>[.slice (some ⟨(β k).b,0,none⟩) (led n.natAbs).length (led n.natAbs).length]) [(k,(bytT n).ob)] 0 (.one (.c (.b (.v (.string (mag n.natAbs)))))) [] (fun β w h ρ o ho hx=>by
 have h1:BY n w (β k):=h (k,(bytT n).ob) (by simp)
 have h2:ρ (.tmp t)=.slice (some ⟨(β k).b,0,none⟩) (led n.natAbs).length (led n.natAbs).length:=by simpa [Op.operands] using hx
 refine ⟨[],w,(fun _ h=>by cases h),?_,trivial,Below.refl _ _⟩
 unfold execOp
 rw [ho]
 simp only [h2]
 have h3:=string_of_byt h1.2
 simp [go_sem,h3]
 rfl)
def dStr (n:Int):Ev Tryz.prog:=.dyn (fun o _ _=>match o.op with
 | .convert a b (.tmp _)=>Nat.beq a 343&&Nat.beq b 9
 | _=>false) fun o xs _=>match o.op with
 | .convert _ _ (.tmp t)=>lit (slOf (xs.getD 0 undefS)) fun k=>rdStr (o.dst.getD 0) t n k
 | _=>.eqv 0 undef undef rfl
theorem frac_ok {x:Rat} (hx:Sz KB x) (β:Env) (w:World) (hh:∀ (k:Nat) (t:Thing),[ratM x][k]?=some t→t.D w (β k)) :
  Calls Tryz.prog 211 (([rV 0]:List SV).map (SV.den β)).toArray w fun e w'=>∃ xs:List Pl,freshS β w 1 xs∧e=.returned ((SV.tup [.a [.b (.v (.bool (ansB x))),.b (.v (.string (ansS x))),.b (.v (.bool false)),.b (.v (.string (ansD x)))],.c (.b (.v (.int .i64 (ansK x))))]).den (extE β 1 xs))∧newHold w' [] xs∧Below w.heap.size w w':=by
 cases h1:decide (1024<sz x.num) with
 | true =>
  have hf:¬ Fit x:=fun h=>by have:=of_decide_eq_true h1; have:=h.1; unfold sz at *; omega
  rw [show ansB x=false from if_neg hf,show ansS x=⟨#[]⟩ from if_neg hf,show ansD x=⟨#[]⟩ from if_neg hf,show ansK x=4 from if_neg hf]
  exact spec_auto (obs:=[ratM x]) (Ns:=[(5,10)]) (m:=400) (evs:=[(sRat x).e,nNum x,nBytes (n:=x.num) (Nat.le_trans hx.1 (by decide)),nDenom x,nBytes (n:=(x.den:Int)) (Nat.le_trans hx.2 (by decide)),.eqv 16 (.bool (decide ((1024:Int)<((led x.num.natAbs).length:Int)))) (.bool true) (led_gt h1)]) Tryz.func211 hmA (fun β=>by kernel_rfl) (by kernel_rfl) β w hh
 | false=>cases h2:decide (1024<sz (x.den:Int)) with
 | true =>
  have hf:¬ Fit x:=fun h=>by have:=of_decide_eq_true h2; have:=h.2; unfold sz at *; rw [Int.natAbs_natCast] at *; omega
  rw [show ansB x=false from if_neg hf,show ansS x=⟨#[]⟩ from if_neg hf,show ansD x=⟨#[]⟩ from if_neg hf,show ansK x=4 from if_neg hf]
  exact spec_auto (obs:=[ratM x]) (Ns:=[(5,10)]) (m:=400) (evs:=[(sRat x).e,nNum x,nBytes (n:=x.num) (Nat.le_trans hx.1 (by decide)),nDenom x,nBytes (n:=(x.den:Int)) (Nat.le_trans hx.2 (by decide)),.eqv 16 (.bool (decide ((1024:Int)<((led x.num.natAbs).length:Int)))) (.bool false) (led_gt h1),.eqv 20 (.bool (decide ((1024:Int)<((led (x.den:Int).natAbs).length:Int)))) (.bool true) (led_gt h2)]) Tryz.func211 hmA (fun β=>by kernel_rfl) (by kernel_rfl) β w hh
 | false =>
  have hf:Fit x:=⟨by have:=of_decide_eq_false h1; unfold sz at *; omega,by have:=of_decide_eq_false h2; unfold sz at *; rw [Int.natAbs_natCast] at *; omega⟩
  rw [show ansB x=decide (x.num<0) from if_pos hf,show ansS x=mag x.num.natAbs from if_pos hf,show ansD x=mag (x.den:Int).natAbs from if_pos hf,show ansK x=0 from if_pos hf]
  exact spec_auto (obs:=[ratM x]) (Ns:=[(5,10)]) (m:=400) (evs:=[(sRat x).e,nNum x,nBytes (n:=x.num) (Nat.le_trans hx.1 (by decide)),nDenom x,nBytes (n:=(x.den:Int)) (Nat.le_trans hx.2 (by decide)),.eqv 16 (.bool (decide ((1024:Int)<((led x.num.natAbs).length:Int)))) (.bool false) (led_gt h1),.eqv 20 (.bool (decide ((1024:Int)<((led (x.den:Int).natAbs).length:Int)))) (.bool false) (led_gt h2),nSign (x:=x) rfl,.eqv 25 (.bool (decide (x.num.sign<0))) (.bool (decide (x.num<0))) sign_lt,dStr x.num,dStr (x.den:Int)]) Tryz.func211 hmA (fun β=>by kernel_rfl) (by kernel_rfl) β w hh
noncomputable def sFrac {x:Rat} (hx:Sz KB x):Spec Tryz.prog :=
 ⟨211,Tryz.call211,[rV 0],[ratM x],(SV.tup [.a [.b (.v (.bool (ansB x))),.b (.v (.string (ansS x))),.b (.v (.bool false)),.b (.v (.string (ansD x)))],.c (.b (.v (.int .i64 (ansK x))))]),[],frac_ok hx,by kernel_rfl⟩
def AN (w:World) (g:Pl):Prop:=∀ c,g.F c→c<w.heap.size
theorem an_stable:Stable AN :=
 ⟨fun w g h=>h,fun w w' g h hb c hc=>Nat.lt_of_lt_of_le (h c hc) hb.size,fun w w' g b o m n h hs ht hne c hc=>Nat.lt_of_lt_of_le (h c hc) (ht.below (B:=0) (Nat.zero_le _) (Nat.zero_le _)).size⟩
def anyT:Thing:=⟨AN,an_stable,0,AN,an_stable,fun _ _ h=>h,true,fun _ _ _ h=>h.elim,true,fun _ _ _ h=>h.elim,false,fun h=>(Bool.noConfusion h),false,fun h=>(Bool.noConfusion h)⟩
theorem an_of {D:World→Pl→Prop} (st:Stable D) {w:World} {g:Pl} (h:D w g):AN w g:=st.lt w g h
def exFormed (b:Bool) (s:ByteArray) (r:Bool) (hr:r=true↔FormedB b s):Ev Tryz.prog:=.ret 349 Tryz.call349 #[.agg #[.bool b,.string s]] _ (fun w=>exformed_any b s r hr)
def exWhole (b:Bool) (s:ByteArray) (hs:s.size≤4294967296) (x:Int) (hx:numOf b s=x):Ev Tryz.prog:=dyn1 fun _ n=>.call 350 Tryz.call350 (fun _=>#[.agg #[.bool b,.string s]]) [] n (.one (.c (.b (.z n 0)))) [intT x] (fun β w _=>one_int (by rw [← hx]; exact exwhole_any b s hs) β n _)
theorem ratNo_ok {b c:Bool} {s t:ByteArray} (h:¬ IsFrac (rawV b c s t)) (β:Env) (w:World) (hh:∀ (k:Nat) (t:Thing),([]:List Thing)[k]?=some t→t.D w (β k)):Calls Tryz.prog 294 (([.one (.a [.b (.v (.bool b)),.b (.v (.string s)),.b (.v (.bool c)),.b (.v (.string t))])]:List SV).map (SV.den β)).toArray w fun e w'=>∃ xs:List Pl,freshS β w 0 xs∧e=.returned ((SV.one (.c (.b (.v (.pointer none))))).den (extE β ([]:List Thing).length xs))∧newHold w' [] xs∧Below w.heap.size w w':=by
 obtain ⟨r1,h1⟩:=formedB_dec b s
 obtain ⟨r2,h2⟩:=formedB_dec c t
 cases r1 with
 | false=>exact spec_ok (args:=[.one (.a [.b (.v (.bool b)),.b (.v (.string s)),.b (.v (.bool c)),.b (.v (.string t))])]) (obs:=[]) (idx:=[]) (Ns:=[]) (m:=400) (evs:=[exFormed b s false h1]) Tryz.func294 hmA (fun β=>by kernel_rfl) (by kernel_rfl) β w hh
 | true=>cases r2 with
 | false=>exact spec_ok (args:=[.one (.a [.b (.v (.bool b)),.b (.v (.string s)),.b (.v (.bool c)),.b (.v (.string t))])]) (obs:=[]) (idx:=[]) (Ns:=[]) (m:=400) (evs:=[exFormed b s true h1,exFormed c t false h2]) Tryz.func294 hmA (fun β=>by kernel_rfl) (by kernel_rfl) β w hh
 | true=>cases c with
 | true=>exact spec_ok (args:=[.one (.a [.b (.v (.bool b)),.b (.v (.string s)),.b (.v (.bool true)),.b (.v (.string t))])]) (obs:=[]) (idx:=[]) (Ns:=[]) (m:=400) (evs:=[exFormed b s true h1,exFormed true t true h2]) Tryz.func294 hmA (fun β=>by kernel_rfl) (by kernel_rfl) β w hh
 | false=>cases h4:decide (t.size=0) with
 | true=>exact spec_ok (args:=[.one (.a [.b (.v (.bool b)),.b (.v (.string s)),.b (.v (.bool false)),.b (.v (.string t))])]) (obs:=[]) (idx:=[]) (Ns:=[]) (m:=400) (evs:=[exFormed b s true h1,exFormed false t true h2,.eqv 25 (.bool (t.toList==(⟨#[]⟩:ByteArray).toList)) (.bool true) (eq_empty h4)]) Tryz.func294 hmA (fun β=>by kernel_rfl) (by kernel_rfl) β w hh
 | false=>cases h5:decide (1024<s.size) with
 | true=>exact spec_ok (args:=[.one (.a [.b (.v (.bool b)),.b (.v (.string s)),.b (.v (.bool false)),.b (.v (.string t))])]) (obs:=[]) (idx:=[]) (Ns:=[]) (m:=400) (evs:=[exFormed b s true h1,exFormed false t true h2,.eqv 25 (.bool (t.toList==(⟨#[]⟩:ByteArray).toList)) (.bool false) (eq_empty h4),.eqv 32 (.bool (decide ((1024:Int)<(s.size:Int)))) (.bool true) (len_gt h5)]) Tryz.func294 hmA (fun β=>by kernel_rfl) (by kernel_rfl) β w hh
 | false=>cases h6:decide (1024<t.size) with
 | true=>exact spec_ok (args:=[.one (.a [.b (.v (.bool b)),.b (.v (.string s)),.b (.v (.bool false)),.b (.v (.string t))])]) (obs:=[]) (idx:=[]) (Ns:=[]) (m:=400) (evs:=[exFormed b s true h1,exFormed false t true h2,.eqv 25 (.bool (t.toList==(⟨#[]⟩:ByteArray).toList)) (.bool false) (eq_empty h4),.eqv 32 (.bool (decide ((1024:Int)<(s.size:Int)))) (.bool false) (len_gt h5),.eqv 39 (.bool (decide ((1024:Int)<(t.size:Int)))) (.bool true) (len_gt h6)]) Tryz.func294 hmA (fun β=>by kernel_rfl) (by kernel_rfl) β w hh
 | false =>
  obtain ⟨n,e1⟩:∃ n,numOf b s=n:=⟨_,rfl⟩
  obtain ⟨d,e2⟩:∃ d,numOf false t=d:=⟨_,rfl⟩
  have l1:s.size≤1024:=by have:=of_decide_eq_false h5; omega
  have l2:t.size≤1024:=by have:=of_decide_eq_false h6; omega
  have l0:=of_decide_eq_false h4
  obtain ⟨f1,f2⟩:=formed_num (h1.1 rfl)
  obtain ⟨f3,f4⟩:=formed_num (h2.1 rfl)
  rw [e1] at f1 f2
  rw [e2] at f3 f4
  have z1:s.size≤4294967296:=by omega
  have z2:t.size≤4294967296:=by omega
  have h0:d≠0:=by
   rintro rfl
   have:sz 0=0:=Nat.le_zero.1 (sz_le.2 (by decide))
   unfold sz at this
   rw [f4] at this
   exact l0 this
  have k1:sz n≤KB:=by unfold sz; rw [f2]; exact Nat.le_trans l1 (by decide)
  have k2:sz d≤KB:=by unfold sz; rw [f4]; exact Nat.le_trans l2 (by decide)
  cases h7:decide ((Rat.divInt n d).num=n) with
  | false=>exact spec_ok (args:=[.one (.a [.b (.v (.bool b)),.b (.v (.string s)),.b (.v (.bool false)),.b (.v (.string t))])]) (obs:=[]) (idx:=[]) (Ns:=[]) (m:=400) (evs:=[exFormed b s true h1,exFormed false t true h2,.eqv 25 (.bool (t.toList==(⟨#[]⟩:ByteArray).toList)) (.bool false) (eq_empty h4),.eqv 32 (.bool (decide ((1024:Int)<(s.size:Int)))) (.bool false) (len_gt h5),.eqv 39 (.bool (decide ((1024:Int)<(t.size:Int)))) (.bool false) (len_gt h6),exWhole b s z1 n e1,exWhole false t z2 d e2,mkR,fSetFrac h0 k1 k2,nNum (Rat.divInt n d),nIntCmp (a:=(Rat.divInt n d).num) (b:=n) rfl,.eqv 55 (.bool (cmpI (Rat.divInt n d).num n != 0)) (.bool true) (cmp_ne h7)]) Tryz.func294 hmA (fun β=>by kernel_rfl) (by kernel_rfl) β w hh
  | true=>cases h8:decide (((Rat.divInt n d).den:Int)=d) with
  | false=>exact spec_ok (args:=[.one (.a [.b (.v (.bool b)),.b (.v (.string s)),.b (.v (.bool false)),.b (.v (.string t))])]) (obs:=[]) (idx:=[]) (Ns:=[]) (m:=400) (evs:=[exFormed b s true h1,exFormed false t true h2,.eqv 25 (.bool (t.toList==(⟨#[]⟩:ByteArray).toList)) (.bool false) (eq_empty h4),.eqv 32 (.bool (decide ((1024:Int)<(s.size:Int)))) (.bool false) (len_gt h5),.eqv 39 (.bool (decide ((1024:Int)<(t.size:Int)))) (.bool false) (len_gt h6),exWhole b s z1 n e1,exWhole false t z2 d e2,mkR,fSetFrac h0 k1 k2,nNum (Rat.divInt n d),nIntCmp (a:=(Rat.divInt n d).num) (b:=n) rfl,.eqv 55 (.bool (cmpI (Rat.divInt n d).num n != 0)) (.bool false) (cmp_ne h7),nDenom (Rat.divInt n d),nIntCmp (a:=((Rat.divInt n d).den:Int)) (b:=d) rfl,.eqv 61 (.bool (cmpI ((Rat.divInt n d).den:Int) d != 0)) (.bool true) (cmp_ne h8)]) Tryz.func294 hmA (fun β=>by kernel_rfl) (by kernel_rfl) β w hh
  | true =>
   refine absurd ?_ h
   refine isFrac_doc.2 ⟨⟨l1,l2⟩,h1.1 rfl,h2.1 rfl,?_,?_⟩
   · rw [e2,← of_decide_eq_true h8]
     exact Int.natCast_pos.2 (Rat.divInt n d).den_pos
   · rw [e1,e2]
     have:=(Rat.divInt n d).reduced
     rw [of_decide_eq_true h7] at this
     have h9:(Rat.divInt n d).den=d.natAbs:=by have:=of_decide_eq_true h8; omega
     rw [h9] at this
     exact this
def sRatNo {b c:Bool} {s t:ByteArray} (h:¬ IsFrac (rawV b c s t)):Spec Tryz.prog :=
 ⟨294,Tryz.call294,[.one (.a [.b (.v (.bool b)),.b (.v (.string s)),.b (.v (.bool c)),.b (.v (.string t))])],[],(SV.one (.c (.b (.v (.pointer none))))),[],ratNo_ok h,by kernel_rfl⟩
theorem ratIn_ok {x:Rat} (hx:Fit x) (β:Env) (w:World) (hh:∀ (k:Nat) (t:Thing),([]:List Thing)[k]?=some t→t.D w (β k)):Calls Tryz.prog 294 (([.one (.a [.b (.v (.bool (decide (x.num<0)))),.b (.v (.string (mag x.num.natAbs))),.b (.v (.bool false)),.b (.v (.string (mag x.den)))])]:List SV).map (SV.den β)).toArray w fun e w'=>∃ xs:List Pl,freshS β w 0 xs∧e=.returned ((SV.one (.c (.b (.z 0 0)))).den (extE β ([]:List Thing).length xs))∧newHold w' [ratT x] xs∧Below w.heap.size w w':=by
 obtain ⟨n,en⟩:∃ n,x.num=n:=⟨_,rfl⟩
 obtain ⟨d,ed⟩:∃ d:Int,(x.den:Int)=d:=⟨_,rfl⟩
 have hxe:x=Rat.divInt n d:=by rw [← en,← ed,Rat.num_divInt_den]
 obtain ⟨b,eb⟩:∃ b,decide (x.num<0)=b:=⟨_,rfl⟩
 obtain ⟨s,es⟩:∃ s,mag x.num.natAbs=s:=⟨_,rfl⟩
 obtain ⟨t,et⟩:∃ t,mag x.den=t:=⟨_,rfl⟩
 have e1:numOf b s=n:=by rw [← eb,← es,← en]; exact numOf_mag x.num
 have e2:numOf false t=d:=by
  have:=numOf_mag (x.den:Int)
  rw [show decide ((x.den:Int)<0)=false by simp,Int.natAbs_natCast] at this
  rw [← et,← ed]; exact this
 obtain ⟨⟨l1,l2⟩,q1,q2,q3,_⟩:=isFrac_doc.1 (fitF x hx)
 rw [eb,es] at q1
 rw [et] at q2 q3
 rw [es] at l1
 rw [et] at l2
 rw [e2] at q3
 have h1:true=true↔FormedB b s:=iff_true_of q1
 have h2:true=true↔FormedB false t:=iff_true_of q2
 have h4:decide (t.size=0)=false:=decide_eq_false fun h=>by
  obtain rfl:=empty_data h
  rw [show numOf false ⟨#[]⟩=0 from rfl] at e2
  omega
 have h5:decide (1024<s.size)=false:=decide_eq_false (by omega)
 have h6:decide (1024<t.size)=false:=decide_eq_false (by omega)
 have z1:s.size≤4294967296:=by omega
 have z2:t.size≤4294967296:=by omega
 have h0:d≠0:=by omega
 have k1:sz n≤KB:=by rw [← en]; unfold sz; rw [es]; exact Nat.le_trans l1 (by decide)
 have k2:sz d≤KB:=by rw [← ed]; unfold sz; rw [Int.natAbs_natCast,et]; exact Nat.le_trans l2 (by decide)
 have h7:decide ((Rat.divInt n d).num=n)=true:=decide_eq_true (by rw [← hxe]; exact en)
 have h8:decide (((Rat.divInt n d).den:Int)=d)=true:=decide_eq_true (by rw [← hxe]; exact ed)
 rw [eb,es,et]
 clear eb es et
 subst hxe
 exact spec_ok (args:=[.one (.a [.b (.v (.bool b)),.b (.v (.string s)),.b (.v (.bool false)),.b (.v (.string t))])]) (obs:=[]) (idx:=[4]) (Ns:=[]) (m:=400) (evs:=[exFormed b s true h1,exFormed false t true h2,.eqv 25 (.bool (t.toList==(⟨#[]⟩:ByteArray).toList)) (.bool false) (eq_empty h4),.eqv 32 (.bool (decide ((1024:Int)<(s.size:Int)))) (.bool false) (len_gt h5),.eqv 39 (.bool (decide ((1024:Int)<(t.size:Int)))) (.bool false) (len_gt h6),exWhole b s z1 n e1,exWhole false t z2 d e2,mkR,fSetFrac h0 k1 k2,nNum (Rat.divInt n d),nIntCmp (a:=(Rat.divInt n d).num) (b:=n) rfl,.eqv 55 (.bool (cmpI (Rat.divInt n d).num n != 0)) (.bool false) (cmp_ne h7),nDenom (Rat.divInt n d),nIntCmp (a:=((Rat.divInt n d).den:Int)) (b:=d) rfl,.eqv 61 (.bool (cmpI ((Rat.divInt n d).den:Int) d != 0)) (.bool false) (cmp_ne h8)]) Tryz.func294 hmA (fun β=>by kernel_rfl) (by kernel_rfl) β w hh
def sRatIn {x:Rat} (hx:Fit x):Spec Tryz.prog :=
 ⟨294,Tryz.call294,[.one (.a [.b (.v (.bool (decide (x.num<0)))),.b (.v (.string (mag x.num.natAbs))),.b (.v (.bool false)),.b (.v (.string (mag x.den)))])],[],(.one (.c (.b (.z 0 0)))),[ratT x],ratIn_ok hx,by kernel_rfl⟩
def rdNe (d t:Nat) (x:Rat) (k:Nat):Ev Tryz.prog:=.rd d (.binOp .neq 153 (.tmp t) (.const (.pointer none)) 153) (fun β=>[.pointer ((β k).v 0),.pointer none]) [(k,(ratT x).ob)] 0 (.one (.c (.b (.v (.bool true))))) [] (fun β w h ρ o ho hx=>by
 obtain ⟨a,ha,ka⟩:=needP (x:=x) (k:=k) h (by simp)
 have h2:ρ (.tmp t)=.pointer (some ⟨a,0,none⟩)∧ρ (.const (.pointer none))=.pointer none:=by
  rw [ha.1] at hx
  simpa [Op.operands] using hx
 refine ⟨[],w,(fun _ h=>by cases h),?_,trivial,Below.refl _ _⟩
 unfold execOp
 rw [ho]
 simp only [h2.1,h2.2]
 kernel_rfl)
def dNe (x:Rat):Ev Tryz.prog:=.dyn (fun o _ _=>match o.op with
 | .binOp .neq a (.tmp _) (.const (.pointer none)) _=>Nat.beq a 153
 | _=>false) fun o xs _=>match o.op with
 | .binOp _ _ (.tmp t) _ _=>lit (ptOf (xs.getD 0 undefS)) fun k=>rdNe (o.dst.getD 0) t x k
 | _=>.eqv 0 undef undef rfl
def fpC (a:Fp):List Lf:=lsX a.C
def ofT:Fp→Fp→List Thing
 | .ok x _,.ok y _=>[ratT x,ratT y]
 | _,_=>[anyT,anyT]
theorem sOf_ok (a b:Fp) (β:Env) (w:World) (hh:∀ (k:Nat) (t:Thing),([]:List Thing)[k]?=some t→t.D w (β k)) :
  Calls Tryz.prog 213 (([.one (.a (fpC a++fpC b))]:List SV).map (SV.den β)).toArray w fun e w'=>∃ xs:List Pl,freshS β w 0 xs∧e=.returned ((SV.tup [nA 0,.c (.b (.v (.bool (a.B&&b.B))))]).den (extE β 0 xs))∧newHold w' (ofT a b) xs∧Below w.heap.size w w':=by
 cases a with
 | ok x hx=>cases b with
  | ok y hy=>exact spec_auto (obs:=[]) (evs:=[(sRatIn hx).e,(sRatIn hy).e,dNe x,dNe y]) (Ns:=[]) (m:=400) Tryz.func213 hmA (fun β=>by kernel_rfl) (by kernel_rfl) β w hh
  | no b' c s t h hs ht =>
   refine (spec_auto (args:=[.one (.a (fpC (.ok x hx)++fpC (.no b' c s t h hs ht)))]) (obs:=[]) (res:=SV.tup [.a [.b (.z 0 0),.b (.v (.pointer none))],.c (.b (.v (.bool false)))]) (news:=[ratT x]) (evs:=[(sRatIn hx).e,(sRatNo h).e,dNe x]) (Ns:=[]) (m:=400) Tryz.func213 hmA (fun β=>by kernel_rfl) (by kernel_rfl) β w hh).mono fun e w' ⟨xs,h1,he,h2,h3⟩=>?_
   match xs,h1,he,h2 with
   | [p],h1,he,h2=>exact ⟨[p,nilPl],fun x hx c hc=>by
     rcases List.mem_cons.1 hx with rfl | hx
     · exact h1 _ (by simp) c hc
     · obtain rfl:=List.mem_singleton.1 hx
       exact hc.elim,he,⟨an_of (pr_stable x) h2.1,fun _ h=>h.elim,trivial⟩,h3⟩
 | no b' c s t h hs ht=>cases b with
  | ok y hy =>
   refine (spec_auto (args:=[.one (.a (fpC (.no b' c s t h hs ht)++fpC (.ok y hy)))]) (obs:=[]) (res:=SV.tup [.a [.b (.v (.pointer none)),.b (.z 0 0)],.c (.b (.v (.bool false)))]) (news:=[ratT y]) (evs:=[(sRatNo h).e,(sRatIn hy).e]) (Ns:=[]) (m:=400) Tryz.func213 hmA (fun β=>by kernel_rfl) (by kernel_rfl) β w hh).mono fun e w' ⟨xs,h1,he,h2,h3⟩=>?_
   match xs,h1,he,h2 with
   | [p],h1,he,h2=>exact ⟨[nilPl,p],fun x hx c hc=>by
     rcases List.mem_cons.1 hx with rfl | hx
     · exact hc.elim
     · obtain rfl:=List.mem_singleton.1 hx
       exact h1 _ (by simp) c hc,he,⟨fun _ h=>h.elim,an_of (pr_stable y) h2.1,trivial⟩,h3⟩
  | no b'' c' s' t' h' hs' ht' =>
   refine (spec_auto (args:=[.one (.a (fpC (.no b' c s t h hs ht)++fpC (.no b'' c' s' t' h' hs' ht')))]) (obs:=[]) (res:=SV.tup [.a [.b (.v (.pointer none)),.b (.v (.pointer none))],.c (.b (.v (.bool false)))]) (news:=[]) (evs:=[(sRatNo h).e,(sRatNo h').e]) (Ns:=[]) (m:=400) Tryz.func213 hmA (fun β=>by kernel_rfl) (by kernel_rfl) β w hh).mono fun e w' ⟨xs,h1,he,h2,h3⟩=>?_
   match xs,h1,he,h2 with
   | [],h1,he,h2=>exact ⟨[nilPl,nilPl],fun x hx c hc=>by
     rcases List.mem_cons.1 hx with rfl | hx
     · exact hc.elim
     · obtain rfl:=List.mem_singleton.1 hx
       exact hc.elim,he,⟨fun _ h=>h.elim,fun _ h=>h.elim,trivial⟩,h3⟩
def sOf (a b:Fp):Spec Tryz.prog :=
 ⟨213,Tryz.call213,[.one (.a (fpC a++fpC b))],[],.tup [nA 0,.c (.b (.v (.bool (a.B&&b.B))))],ofT a b,sOf_ok a b,by cases a<;>cases b<;>kernel_rfl⟩
def sInt (n m:Int) (hn : -9223372036854775808≤n∧n≤9223372036854775807) (hm : -9223372036854775808≤m∧m≤9223372036854775807):Spec Tryz.prog :=
 Spec.auto Tryz.call165 [.one (.c (.b (.v (.int .i64 n)))),.one (.c (.b (.v (.int .i64 m))))] [] (nV 0) (gT (gint n m))
  [nNew n 1 hn (by decide) (by decide),nNew m 1 hm (by decide) (by decide)] [] 400 Tryz.func165 hmA (by kernel_rfl) (fun β=>by kernel_rfl)
theorem told_ok {z:GQ} (hz:GSz KB z) (β:Env) (w:World) (hh:∀ (k:Nat) (t:Thing),(gM z)[k]?=some t→t.D w (β k)) :
  Calls Tryz.prog 186 (([nV 0]:List SV).map (SV.den β)).toArray w fun e w'=>∃ xs:List Pl,freshS β w 2 xs∧e=.returned ((SV.tup [.a (lsX (gaC z)),.c (.b (.v (.int .i64 (gaK z))))]).den (extE β 2 xs))∧newHold w' [] xs∧Below w.heap.size w w':=by
 by_cases h1:Fit z.re
 · by_cases h2:Fit z.im
   · rw [(ga_fit ⟨h1,h2⟩).1,(ga_fit ⟨h1,h2⟩).2]
     have e1:(ansK z.re != 0)=false:=by rw [(ansF_fit h1).2.2.2]; rfl
     have e2:(ansK z.im != 0)=false:=by rw [(ansF_fit h2).2.2.2]; rfl
     unfold gC
     rw [← (ansF_fit h1).1,← (ansF_fit h1).2.1,← (ansF_fit h1).2.2.1,← (ansF_fit h2).1,← (ansF_fit h2).2.1,← (ansF_fit h2).2.2.1]
     exact spec_auto (obs:=gM z) (evs:=[(sFrac hz.1).e,(sFrac hz.2).e,.eqv 21 (.bool (ansK z.re != 0)) (.bool false) (ansK_ne e1),.eqv 24 (.bool (ansK z.im != 0)) (.bool false) (ansK_ne e2)]) (Ns:=[]) (m:=400) Tryz.func186 hmA (fun β=>by kernel_rfl) (by kernel_rfl) β w hh
   · have hn:¬ FitG z:=fun h=>h2 h.2
     rw [(ga_not hn).1,(ga_not hn).2]
     have e1:(ansK z.re != 0)=false:=by rw [(ansF_fit h1).2.2.2]; rfl
     have e2:(ansK z.im != 0)=true:=by rw [show ansK z.im=4 from if_neg h2]; rfl
     exact spec_auto (obs:=gM z) (evs:=[(sFrac hz.1).e,(sFrac hz.2).e,.eqv 21 (.bool (ansK z.re != 0)) (.bool false) (ansK_ne e1),.eqv 24 (.bool (ansK z.im != 0)) (.bool true) (ansK_ne e2)]) (Ns:=[]) (m:=400) Tryz.func186 hmA (fun β=>by kernel_rfl) (by kernel_rfl) β w hh
 · have hn:¬ FitG z:=fun h=>h1 h.1
   rw [(ga_not hn).1,(ga_not hn).2]
   have e1:(ansK z.re != 0)=true:=by rw [show ansK z.re=4 from if_neg h1]; rfl
   exact spec_auto (obs:=gM z) (evs:=[(sFrac hz.1).e,(sFrac hz.2).e,.eqv 21 (.bool (ansK z.re != 0)) (.bool true) (ansK_ne e1)]) (Ns:=[]) (m:=400) Tryz.func186 hmA (fun β=>by kernel_rfl) (by kernel_rfl) β w hh
noncomputable def sTold {z:GQ} (hz:GSz KB z):Spec Tryz.prog :=
 ⟨186,Tryz.call186,[nV 0],gM z,.tup [.a (lsX (gaC z)),.c (.b (.v (.int .i64 (gaK z))))],[],told_ok hz,by kernel_rfl⟩
def pI:Pt→Bool
 | .inf=>true
 | .fin _=>false
def pG:Pt→GQ
 | .inf=>g0
 | .fin z=>z
def pL (k:Nat) (p:Pt):List Lf:=[.b (.v (.bool (pI p))),.b (.z k 0),.b (.z (k+1) 0)]
abbrev pV (k:Nat) (p:Pt):SV:=.one (.a (pL k p))
def pM (p:Pt):List Thing:=gM (pG p)
def mA (k:Nat) (m:MQ):SC:=.a [.b (.z k 0),.b (.z (k+1) 0),.b (.z (k+2) 0),.b (.z (k+3) 0),.b (.z (k+4) 0),.b (.z (k+5) 0),.b (.z (k+6) 0),.b (.z (k+7) 0),.b (.v (.bool m.t))]
abbrev mV (k:Nat) (m:MQ):SV:=.one (mA k m)
def mM (m:MQ):List Thing:=gM m.a++gM m.b++gM m.c++gM m.d
def mT (m:MQ):List Thing:=gT m.a++gT m.b++gT m.c++gT m.d
def sBy (p:Pt):Spec Tryz.prog :=
 ⟨292,Tryz.call292,[pV 0 p],pM p,.tup [nA 2,nA 4],gM (byA p)++gM (byB p),fun β w hh=>by
  cases p
  · exact spec_auto (obs:=pM .inf) (evs:=[(sInt 1 0 (by decide) (by decide)).e,(sInt 0 0 (by decide) (by decide)).e]) (Ns:=[(3,3)]) (m:=400) Tryz.func292 hmA (fun β=>by kernel_rfl) (by kernel_rfl) β w hh
  · rename_i z
    exact spec_auto (obs:=pM (.fin z)) (evs:=[(sInt 1 0 (by decide) (by decide)).e]) (Ns:=[(3,3)]) (m:=400) Tryz.func292 hmA (fun β=>by kernel_rfl) (by kernel_rfl) β w hh,by kernel_rfl⟩
def sAcross {p q:Pt} (hp:PSz KE p) (hq:PSz KE q):Spec Tryz.prog :=
 Spec.auto Tryz.call293 [pV 0 p,pV 2 q] (pM p++pM q) (nV 4) (gT (gacross p q))
  [(sBy p).e,(sBy q).e,
 (sMul ((byA_sz hp (by decide)).mono (by decide)) (byB_sz (p:=q) (by decide))).e,(sMul (byB_sz (p:=p) (by decide)) ((byA_sz hq (by decide)).mono (by decide))).e,
 (sSub (((byA_sz hp (by decide)).mul (byB_sz (k:=KE) (p:=q) (by decide))).mono (by decide)) (((byB_sz (k:=KE) (p:=p) (by decide)).mul (byA_sz hq (by decide))).mono (by decide))).e] [(3,7)] 800 Tryz.func293 hmA (by kernel_rfl) (fun β=>by kernel_rfl)
def sDet {m:MQ} (h:MSz KE m):Spec Tryz.prog :=
 Spec.auto Tryz.call185 [mV 0 m] (mM m) (nV 8) (gT (mdet m))
  [(sMul (h.a.mono (by decide)) (h.d.mono (by decide))).e,(sMul (h.b.mono (by decide)) (h.c.mono (by decide))).e,(sSub ((h.a.mul h.d).mono (by decide)) ((h.b.mul h.c).mono (by decide))).e]
  [(1,11)] 400 Tryz.func185 hmA (by kernel_rfl) (fun β=>by kernel_rfl)
def sNormal {m:MQ} (h:MSz KM m) {b:Bool} (hb:gzero m.c=b) (h0:gzero (bif b then m.d else m.c)=false):Spec Tryz.prog :=
 ⟨268,Tryz.call268,[mV 0 m],mM m,mV 8 (mnormB m b),mT (mnormB m b),fun β w hh=>by
  cases b
  · exact spec_auto (obs:=mM m) (evs:=[(sZero hb).e,(sDiv h.a h.c h0).e,(sDiv h.b h.c h0).e,(sDiv h.c h.c h0).e,(sDiv h.d h.c h0).e]) (Ns:=[(4,19)]) (m:=400) Tryz.func268 hmA (fun β=>by kernel_rfl) (by kernel_rfl) β w hh
  · exact spec_auto (obs:=mM m) (evs:=[(sZero hb).e,(sDiv h.a h.d h0).e,(sDiv h.b h.d h0).e,(sDiv h.c h.d h0).e,(sDiv h.d h.d h0).e]) (Ns:=[(4,19)]) (m:=400) Tryz.func268 hmA (fun β=>by kernel_rfl) (by kernel_rfl) β w hh,by kernel_rfl⟩
def mstill (t:Bool):MQ:=⟨gint 1 0,g0,g0,gint 1 0,t⟩
theorem newHold4 {w:World} {t1 t2 t3 t4:Thing}:∀ {xs:List Pl},newHold w [t1,t2,t3,t4] xs→∃ a b c d,xs=[a,b,c,d]∧t1.D w a∧t2.D w b∧t3.D w c∧t4.D w d
 | [],h=>h.elim
 | [_],h=>h.2.elim
 | [_,_],h=>h.2.2.elim
 | [_,_,_],h=>h.2.2.2.elim
 | [a,b,c,d],h=>⟨a,b,c,d,rfl,h.1,h.2.1,h.2.2.1,h.2.2.2.1⟩
 | _::_::_::_::_::_,h=>h.2.2.2.2.elim
theorem still_ok (β:Env) (w:World) (hh:∀ (k:Nat) (t:Thing),([]:List Thing)[k]?=some t→t.D w (β k)) :
  Calls Tryz.prog 136 (([]:List SV).map (SV.den β)).toArray w fun e w'=>∃ xs:List Pl,freshS β w 0 xs∧e=.returned ((SV.one (.a [.b (.z 0 0),.b (.z 1 0),.b (.v (.pointer none)),.b (.v (.pointer none)),.b (.v (.pointer none)),.b (.v (.pointer none)),.b (.z 2 0),.b (.z 3 0),.b (.v (.bool false))])).den (extE β 0 xs))∧newHold w' [ratM (gint 1 0).re,ratM (gint 1 0).im,ratM (gint 1 0).re,ratM (gint 1 0).im] xs∧Below w.heap.size w w' :=
 spec_auto (evs:=[(sInt 1 0 (by decide) (by decide)).e,(sInt 1 0 (by decide) (by decide)).e]) (Ns:=[]) (m:=400) Tryz.func136 hmA (fun β=>by kernel_rfl) (by kernel_rfl) β w hh
theorem still_ok2 (β:Env) (w:World) (hh:∀ (k:Nat) (t:Thing),([]:List Thing)[k]?=some t→t.D w (β k)) :
  Calls Tryz.prog 136 (([]:List SV).map (SV.den β)).toArray w fun e w'=>∃ xs:List Pl,freshS β w 0 xs∧e=.returned ((mV 0 (mstill false)).den (extE β 0 xs))∧newHold w' [ratM (gint 1 0).re,ratM (gint 1 0).im,ratM 0,ratM 0,ratM 0,ratM 0,ratM (gint 1 0).re,ratM (gint 1 0).im] xs∧Below w.heap.size w w':=by
 refine (still_ok β w hh).mono fun e w' ⟨xs,h1,he,h2,h3⟩=>?_
 obtain ⟨a,b,c,d,rfl,k1,k2,k3,k4⟩:=newHold4 h2
 have hn:(ratM 0).D w' nilPl:=nil_or (decide_eq_true rfl) w'
 refine ⟨[a,b,nilPl,nilPl,nilPl,nilPl,c,d],fun x hx k hk=>?_,by rw [he]; kernel_rfl,⟨k1,k2,hn,hn,hn,hn,k3,k4,trivial⟩,h3⟩
 simp only [List.mem_cons,List.not_mem_nil,or_false] at hx
 rcases hx with rfl | rfl | rfl | rfl | rfl | rfl | rfl | rfl
 · exact h1 _ (by simp) k hk
 · exact h1 _ (by simp) k hk
 · exact hk.elim
 · exact hk.elim
 · exact hk.elim
 · exact hk.elim
 · exact h1 _ (by simp) k hk
 · exact h1 _ (by simp) k hk
def sStill:Spec Tryz.prog :=
 ⟨136,Tryz.call136,[],[],mV 0 (mstill false),[ratM (gint 1 0).re,ratM (gint 1 0).im,ratM 0,ratM 0,ratM 0,ratM 0,ratM (gint 1 0).re,ratM (gint 1 0).im],still_ok2,by kernel_rfl⟩
def sUndo {m:MQ} (h:MSz KM m) {b:Bool} (hb:gzero (mconj (mundo0 m) m.t).c=b) (h0:gzero (bif b then (mconj (mundo0 m) m.t).d else (mconj (mundo0 m) m.t).c)=false):Spec Tryz.prog :=
 ⟨135,Tryz.call135,[mV 0 m],mM m,mV 8 (mnormB (mconj (mundo0 m) m.t) b),mT (mnormB (mconj (mundo0 m) m.t) b),fun β w hh=>by
  obtain ⟨a,b',c,d,t⟩:=m
  cases t
  · exact spec_auto (obs:=mM ⟨a,b',c,d,false⟩) (evs:=[(sNeg b').e,(sNeg c).e,(sNormal (h.undo0.conj false) hb h0).e]) (Ns:=[(1,14),(3,13)]) (m:=400) Tryz.func135 hmA (fun β=>by kernel_rfl) (by kernel_rfl) β w hh
  · exact spec_auto (obs:=mM ⟨a,b',c,d,true⟩) (evs:=[(sNeg b').e,(sNeg c).e,(sConj d).e,(sConj (gneg b')).e,(sConj (gneg c)).e,(sConj a).e,(sNormal (h.undo0.conj true) hb h0).e]) (Ns:=[(1,14),(3,13)]) (m:=400) Tryz.func135 hmA (fun β=>by kernel_rfl) (by kernel_rfl) β w hh,by kernel_rfl⟩
def mulE {z w:GQ} (hz:GSz KE z) (hw:GSz KE w):Ev Tryz.prog:=(sMul (hz.mono (by decide)) (hw.mono (by decide))).e
def mulMulAdd {z w u v:GQ} (hz:GSz KE z) (hw:GSz KE w) (hu:GSz KE u) (hv:GSz KE v):List (Ev Tryz.prog) :=
 [mulE hz hw,mulE hu hv,(sAdd ((hz.mul hw).mono (by decide)) ((hu.mul hv).mono (by decide))).e]
def behE {m n:MQ} (h:MSz KE m) (k:MSz KE n):List (Ev Tryz.prog) :=
 mulMulAdd h.a k.a h.b k.c++mulMulAdd h.a k.b h.b k.d++mulMulAdd h.c k.a h.d k.c++mulMulAdd h.c k.b h.d k.d
def conjE (n:MQ):List (Ev Tryz.prog):=[(sConj n.a).e,(sConj n.b).e,(sConj n.c).e,(sConj n.d).e]
def sBehind {m n:MQ} (h:MSz KE m) (k:MSz KE n) {b:Bool} (hb:gzero (mbeh m n).c=b) (h0:gzero (bif b then (mbeh m n).d else (mbeh m n).c)=false):Spec Tryz.prog :=
 ⟨137,Tryz.call137,[mV 0 m,mV 8 n],mM m++mM n,mV 16 (mnormB (mbeh m n) b),mT (mnormB (mbeh m n) b),fun β w hh=>by
  obtain ⟨a,b',c,d,t⟩:=m
  obtain ⟨a2,b2,c2,d2,t2⟩:=n
  cases t
  · cases t2<;>exact spec_auto (obs:=mM ⟨a,b',c,d,_⟩++mM ⟨a2,b2,c2,d2,_⟩) (evs:=behE h k++[(sNormal ((h.beh k).mono (by decide)) hb h0).e]) (Ns:=[(2,13),(3,51)]) (m:=800) Tryz.func137 hmA (fun β=>by kernel_rfl) (by kernel_rfl) β w hh
  · cases t2<;>exact spec_auto (obs:=mM ⟨a,b',c,d,_⟩++mM ⟨a2,b2,c2,d2,_⟩) (evs:=conjE ⟨a2,b2,c2,d2,true⟩++behE h (k.conj true)++[(sNormal ((h.beh k).mono (by decide)) hb h0).e]) (Ns:=[(2,13),(3,51)]) (m:=800) Tryz.func137 hmA (fun β=>by kernel_rfl) (by kernel_rfl) β w hh,by kernel_rfl⟩
def chE {p q r:Pt} (hp:PSz KC p) (hq:PSz KC q) (hr:PSz KC r):List (Ev Tryz.prog):=[(sBy p).e,(sBy r).e,(sAcross (hq.mono (by decide)) (hr.mono (by decide))).e,(sAcross (hq.mono (by decide)) (hp.mono (by decide))).e,
 mulE (byB_sz (p:=p) (by decide)) ((gacross_sz hq hr (by decide)).mono (by decide)),mulE ((byA_sz hp (by decide)).mono (by decide)) ((gacross_sz hq hr (by decide)).mono (by decide)),(sNeg (gmul (byA p) (gacross q r))).e,
 mulE (byB_sz (p:=r) (by decide)) ((gacross_sz hq hp (by decide)).mono (by decide)),mulE ((byA_sz hr (by decide)).mono (by decide)) ((gacross_sz hq hp (by decide)).mono (by decide)),(sNeg (gmul (byA r) (gacross q p))).e]
def sChart {p q r:Pt} (hp:PSz KC p) (hq:PSz KC q) (hr:PSz KC r) {b:Bool} (hb:gzero (mchart0 p q r).c=b) (h0:gzero (bif b then (mchart0 p q r).d else (mchart0 p q r).c)=false):Spec Tryz.prog :=
 Spec.auto Tryz.call193 [.one (.a (pL 0 p++pL 2 q++pL 4 r))] (pM p++pM q++pM r) (mV 6 (mnormB (mchart0 p q r) b)) (mT (mnormB (mchart0 p q r) b))
  (chE hp hq hr++[(sNormal ((chart0_sz hp hq hr).mono (by decide)) hb h0).e]) [(3,12),(4,16)] 800 Tryz.func193 hmA (by kernel_rfl) (fun β=>by kernel_rfl)
noncomputable def sToldP (p:Pt) (h:PSz KB p):Spec Tryz.prog :=
 ⟨149,Tryz.call149,[pV 0 p],pM p,.tup [.a (lsX (paC p)),.c (.b (.v (.int .i64 (paK p))))],[],fun β w hh=>by
  cases p
  · exact spec_auto (obs:=pM .inf) (evs:=[]) (Ns:=[]) (m:=400) Tryz.func149 hmA (fun β=>by kernel_rfl) (by kernel_rfl) β w hh
  · rename_i z
    exact spec_auto (obs:=pM (.fin z)) (evs:=[(sTold (z:=z) h).e]) (Ns:=[]) (m:=400) Tryz.func149 hmA (fun β=>by kernel_rfl) (by kernel_rfl) β w hh,by cases p<;>kernel_rfl⟩
def sendE (m:MQ) (h:MSz KE m):(p:Pt)→PSz KE p→List (Ev Tryz.prog)
 | .inf,_=>[]
 | .fin z,hp=>(bif m.t then [(sConj z).e] else [])++[mulE h.a (mcj_sz (t:=m.t) hp),(sAdd ((h.a.mul (mcj_sz (t:=m.t) hp)).mono (by decide)) (h.b.mono (by decide))).e,
   mulE h.c (mcj_sz (t:=m.t) hp),(sAdd ((h.c.mul (mcj_sz (t:=m.t) hp)).mono (by decide)) (h.d.mono (by decide))).e]
theorem nilpair {P:Program} {f:FuncId} {args:Array Value} {w:World} {β:Env} {m:Nat} {r r':Env→Value}
  (h:Calls P f args w fun e w'=>∃ xs:List Pl,freshS β w m xs∧e=.returned (r (extE β m xs))∧newHold w' [] xs∧Below w.heap.size w w') (hr:r' (extE β m [nilPl,nilPl])=r (extE β m [])) :
  Calls P f args w fun e w'=>∃ xs:List Pl,freshS β w m xs∧e=.returned (r' (extE β m xs))∧newHold w' (gM g0) xs∧Below w.heap.size w w' :=
 h.mono fun e w' ⟨xs,h1,he,h2,h3⟩=>by
  match xs,h1,he,h2 with
  | [],h1,he,h2 =>
   have hn:OR0 0 w' nilPl:=nil_or (by decide) w'
   refine ⟨[nilPl,nilPl],fun x hx k hk=>?_,by rw [he,hr],⟨hn,hn,trivial⟩,h3⟩
   simp only [List.mem_cons,List.not_mem_nil,or_false] at hx
   rcases hx with rfl | rfl<;>exact hk.elim
def sSend {m:MQ} {p:Pt} (h:MSz KE m) (hp:PSz KE p) {b:Bool} (hb:gzero (msD m p)=b):Spec Tryz.prog :=
 ⟨150,Tryz.call150,[mV 0 m,pV 8 p],mM m++pM p,pV 10 (msend m p b),pM (msend m p b),fun β w hh=>by
  obtain ⟨a,b',c,d,t⟩:=m
  cases b
  · rcases p with _ | z
    · cases t<;>exact spec_auto (obs:=mM ⟨a,b',c,d,_⟩++pM .inf) (evs:=sendE _ h _ hp++[(sZero hb).e,(sDiv ((msN_sz h hp).mono (by decide)) ((msD_sz h hp).mono (by decide)) hb).e]) (Ns:=[(1,7+6000+1000000*14),(6,14)]) (m:=800) Tryz.func150 hmA (fun β=>by kernel_rfl) (by kernel_rfl) β w hh
    · cases t<;>exact spec_auto (obs:=mM ⟨a,b',c,d,_⟩++pM (.fin z)) (evs:=sendE _ h _ hp++[(sZero hb).e,(sDiv ((msN_sz h hp).mono (by decide)) ((msD_sz h hp).mono (by decide)) hb).e]) (Ns:=[(1,7+6000+1000000*14),(6,14)]) (m:=800) Tryz.func150 hmA (fun β=>by kernel_rfl) (by kernel_rfl) β w hh
  · rcases p with _ | z
    · cases t<;>exact nilpair (r:=(SV.one (.a [.b (.v (.bool true)),.b (.v (.pointer none)),.b (.v (.pointer none))])).den) (r':=(pV 10 .inf).den) (spec_auto (obs:=mM ⟨a,b',c,d,_⟩++pM .inf) (args:=[mV 0 ⟨a,b',c,d,_⟩,pV 8 .inf]) (res:=.one (.a [.b (.v (.bool true)),.b (.v (.pointer none)),.b (.v (.pointer none))])) (news:=[]) (evs:=sendE _ h _ hp++[(sZero hb).e]) (Ns:=[(1,7+6000+1000000*14),(6,14)]) (m:=800) Tryz.func150 hmA (fun β=>by kernel_rfl) (by kernel_rfl) β w hh) (by kernel_rfl)
    · cases t<;>exact nilpair (r:=(SV.one (.a [.b (.v (.bool true)),.b (.v (.pointer none)),.b (.v (.pointer none))])).den) (r':=(pV 10 .inf).den) (spec_auto (obs:=mM ⟨a,b',c,d,_⟩++pM (.fin z)) (args:=[mV 0 ⟨a,b',c,d,_⟩,pV 8 (.fin z)]) (res:=.one (.a [.b (.v (.bool true)),.b (.v (.pointer none)),.b (.v (.pointer none))])) (news:=[]) (evs:=sendE _ h _ hp++[(sZero hb).e]) (Ns:=[(1,7+6000+1000000*14),(6,14)]) (m:=800) Tryz.func150 hmA (fun β=>by kernel_rfl) (by kernel_rfl) β w hh) (by kernel_rfl),by cases p<;>cases b<;>kernel_rfl⟩
noncomputable def tE {z:GQ} (hz:GSz KB z) (r:Bool) (h:(gaK z != 0)=r):List (Ev Tryz.prog):=[(sTold hz).e,.eqv 43 (.bool (gaK z != 0)) (.bool r) (gaK_ne h)]
noncomputable def tN {z:GQ} (hz:GSz KB z) (h:¬ FitG z):List (Ev Tryz.prog):=tE hz true (gaK_not h)++[.eqv 45 (.int .i64 (gaK z)) (.int .i64 4) (by rw [(ga_not h).2])]
noncomputable def sToldM {m:MQ} (h:MSz KM m) {b:Bool} (hb:gzero m.c=b) (h0:gzero (bif b then m.d else m.c)=false):Spec Tryz.prog :=
 ⟨138,Tryz.call138,[mV 0 m],mM m,.tup [.a (lsX (maC (mnormB m b))),.c (.b (.v (.int .i64 (maK (mnormB m b)))))],[],fun β w hh=>by
  have hn:=(h.normB h0).mono (show dsz KM≤KB by decide)
  by_cases h1:FitG (mnormB m b).a
  · by_cases h2:FitG (mnormB m b).b
    · by_cases h3:FitG (mnormB m b).c
      · by_cases h4:FitG (mnormB m b).d
        · rw [(maC_yes ⟨h1,h2,h3,h4⟩).1,(maC_yes ⟨h1,h2,h3,h4⟩).2]
          exact spec_auto (obs:=mM m) (evs:=[(sNormal h hb h0).e]++tE hn.a false (gaK_fit h1)++tE hn.b false (gaK_fit h2)++tE hn.c false (gaK_fit h3)++tE hn.d false (gaK_fit h4)) (Ns:=[]) (m:=800) Tryz.func138 hmA (fun β=>by kernel_rfl) (by kernel_rfl) β w hh
        · have hN:¬ FitM (mnormB m b):=fun e=>h4 e.2.2.2
          rw [(maC_no hN).1,(maC_no hN).2]
          exact spec_auto (obs:=mM m) (evs:=[(sNormal h hb h0).e]++tE hn.a false (gaK_fit h1)++tE hn.b false (gaK_fit h2)++tE hn.c false (gaK_fit h3)++tN hn.d h4) (Ns:=[]) (m:=800) Tryz.func138 hmA (fun β=>by kernel_rfl) (by kernel_rfl) β w hh
      · have hN:¬ FitM (mnormB m b):=fun e=>h3 e.2.2.1
        rw [(maC_no hN).1,(maC_no hN).2]
        exact spec_auto (obs:=mM m) (evs:=[(sNormal h hb h0).e]++tE hn.a false (gaK_fit h1)++tE hn.b false (gaK_fit h2)++tN hn.c h3) (Ns:=[]) (m:=800) Tryz.func138 hmA (fun β=>by kernel_rfl) (by kernel_rfl) β w hh
    · have hN:¬ FitM (mnormB m b):=fun e=>h2 e.2.1
      rw [(maC_no hN).1,(maC_no hN).2]
      exact spec_auto (obs:=mM m) (evs:=[(sNormal h hb h0).e]++tE hn.a false (gaK_fit h1)++tN hn.b h2) (Ns:=[]) (m:=800) Tryz.func138 hmA (fun β=>by kernel_rfl) (by kernel_rfl) β w hh
  · have hN:¬ FitM (mnormB m b):=fun e=>h1 e.1
    rw [(maC_no hN).1,(maC_no hN).2]
    exact spec_auto (obs:=mM m) (evs:=[(sNormal h hb h0).e]++tN hn.a h1) (Ns:=[]) (m:=800) Tryz.func138 hmA (fun β=>by kernel_rfl) (by kernel_rfl) β w hh,by kernel_rfl⟩
def rL (x:R4):List Lf:=[.b (.v (.bool x.b)),.b (.v (.string x.s)),.b (.v (.bool x.c)),.b (.v (.string x.t))]
structure Fr where
 r:R4
 a:Fp
 e:fpC a=rL r
def sOfW (a b:Fr) {r:Bool} (hr:(a.a.B&&b.a.B)=r):Spec Tryz.prog :=
 ⟨213,Tryz.call213,[.one (.a (rL a.r++rL b.r))],[],.tup [nA 0,.c (.b (.v (.bool r)))],[anyT,anyT],fun β w hh=>by
  rw [← a.e,← b.e]
  refine (sOf_ok a.a b.a β w hh).mono fun e w' ⟨xs,h1,he,h2,h3⟩=>⟨xs,h1,by rw [he,hr]; rfl,?_,h3⟩
  obtain ⟨_,a,_⟩:=a
  obtain ⟨_,b,_⟩:=b
  cases a<;>cases b
  · match xs,h2 with
    | [p,q],h2=>exact ⟨an_of (pr_stable _) h2.1,an_of (pr_stable _) h2.2.1,trivial⟩
  · exact h2
  · exact h2
  · exact h2,by kernel_rfl⟩
structure Mp where
 a:Fr
 a':Fr
 b:Fr
 b':Fr
 c:Fr
 c':Fr
 d:Fr
 d':Fr
 t:Bool
def Mp.C (m:Mp):List Lf:=rL m.a.r++rL m.a'.r++rL m.b.r++rL m.b'.r++rL m.c.r++rL m.c'.r++rL m.d.r++rL m.d'.r++[.b (.v (.bool m.t))]
def any8:List Thing:=[anyT,anyT,anyT,anyT,anyT,anyT,anyT,anyT]
def eqEv (t:TypeId) (xs ys:Array Value) (r:Bool) (hg:Tryz.prog.eqGuardType Tryz.prog.depth t=false) (h:∀ w,(Op.equalIn 10000 t (.agg xs) (.agg ys)).run Tryz.prog w=.ok r w):Ev Tryz.prog :=
 .dyn (fun o _ _=>match o.op with
  | .binOp .eql t' _ _ _=>Nat.beq t' t
  | .binOp .neq t' _ _ _=>Nat.beq t' t
  | _=>false) fun o _ _=>match o.op with
  | .binOp .eql _ a b u=>.gen (o.dst.getD 0) (.binOp .eql t a b u) [.agg xs,.agg ys] (.bool r) (fun ρ o w ho hx=>by
    simp only [Op.operands,List.map_cons,List.map_nil,List.cons.injEq] at hx
    exact exec_eql hg (h w) a b ρ o ho hx.1 hx.2.1)
  | .binOp .neq _ a b u=>.gen (o.dst.getD 0) (.binOp .neq t a b u) [.agg xs,.agg ys] (.bool (!r)) (fun ρ o w ho hx=>by
    simp only [Op.operands,List.map_cons,List.map_nil,List.cons.injEq] at hx
    exact exec_neq hg (h w) a b ρ o ho hx.1 hx.2.1)
  | _=>.eqv 0 undef undef rfl
def eqEvP (i i':Bool) (x y x' y':R4) (r:Bool) (h:((i==i')&&((x.eq x'&&(y.eq y'&&true))&&true))=r):Ev Tryz.prog :=
 eqEv 52 #[.bool i,.bool x.b,.string x.s,.bool x.c,.string x.t,.bool y.b,.string y.s,.bool y.c,.string y.t] #[.bool i',.bool x'.b,.string x'.s,.bool x'.c,.string x'.t,.bool y'.b,.string y'.s,.bool y'.c,.string y'.t] r (by kernel_rfl) (fun w=>by rw [← h]; exact eqP 9995 i i' x y x' y')
def eqEvW (b b':Bool) (s s':ByteArray) (r:Bool) (h:weq b b' s s'=r):Ev Tryz.prog :=
 eqEv 23 #[.bool b,.string s] #[.bool b',.string s'] r (by kernel_rfl) (fun w=>by rw [← h]; exact eqW 9998 ..)
def eqEvG (x y x' y':R4) (r:Bool) (h:(x.eq x'&&(y.eq y'&&true))=r):Ev Tryz.prog :=
 eqEv 37 #[.bool x.b,.string x.s,.bool x.c,.string x.t,.bool y.b,.string y.s,.bool y.c,.string y.t] #[.bool x'.b,.string x'.s,.bool x'.c,.string x'.t,.bool y'.b,.string y'.s,.bool y'.c,.string y'.t] r (by kernel_rfl) (fun w=>by rw [← h]; exact eqG 9996 ..)
def spI:Pp→Bool
 | .fin ..=>false
 | _=>true
def spT:Pp→List Thing
 | .fin a b=>ofT a b
 | _=>gM g0
def sSpot (p:Pp):Spec Tryz.prog :=
 ⟨146,Tryz.call146,[.one (.a (lsX p.C))],[],.tup [.a [.b (.v (.bool (spI p))),.b (.z 0 0),.b (.z 1 0)],.c (.b (.v (.bool p.B)))],spT p,fun β w hh=>by
  rcases p with _ | ⟨a,b⟩ | ⟨x,y,h⟩
  · exact nilpair (r:=(SV.tup [.a [.b (.v (.bool true)),.b (.v (.pointer none)),.b (.v (.pointer none))],.c (.b (.v (.bool true)))]).den) (r':=(SV.tup [.a [.b (.v (.bool true)),.b (.z 0 0),.b (.z 1 0)],.c (.b (.v (.bool true)))]).den) (spec_auto (args:=[.one (.a (lsX Pp.inf.C))]) (obs:=[]) (res:=.tup [.a [.b (.v (.bool true)),.b (.v (.pointer none)),.b (.v (.pointer none))],.c (.b (.v (.bool true)))]) (news:=[]) (evs:=[]) (Ns:=[(2,2004005)]) (m:=400) Tryz.func146 hmA (fun β=>by kernel_rfl) (by kernel_rfl) β w hh) (by kernel_rfl)
  · cases a with
    | ok x hx=>cases b with
     | ok y hy=>exact spec_auto (obs:=[]) (evs:=[(sOf (.ok x hx) (.ok y hy)).e]) (Ns:=[(2,2004005)]) (m:=400) Tryz.func146 hmA (fun β=>by kernel_rfl) (by kernel_rfl) β w hh
     | no b2 c2 s2 t2 h2 u2 v2=>exact spec_auto (obs:=[]) (evs:=[(sOf (.ok x hx) (.no b2 c2 s2 t2 h2 u2 v2)).e]) (Ns:=[(2,2004005)]) (m:=400) Tryz.func146 hmA (fun β=>by kernel_rfl) (by kernel_rfl) β w hh
    | no b1 c1 s1 t1 h1 u1 v1=>cases b with
     | ok y hy=>exact spec_auto (obs:=[]) (evs:=[(sOf (.no b1 c1 s1 t1 h1 u1 v1) (.ok y hy)).e]) (Ns:=[(2,2004005)]) (m:=400) Tryz.func146 hmA (fun β=>by kernel_rfl) (by kernel_rfl) β w hh
     | no b2 c2 s2 t2 h2 u2 v2=>exact spec_auto (obs:=[]) (evs:=[(sOf (.no b1 c1 s1 t1 h1 u1 v1) (.no b2 c2 s2 t2 h2 u2 v2)).e]) (Ns:=[(2,2004005)]) (m:=400) Tryz.func146 hmA (fun β=>by kernel_rfl) (by kernel_rfl) β w hh
  · exact nilpair (r:=(SV.tup [.a [.b (.v (.bool true)),.b (.v (.pointer none)),.b (.v (.pointer none))],.c (.b (.v (.bool false)))]).den) (r':=(SV.tup [.a [.b (.v (.bool true)),.b (.z 0 0),.b (.z 1 0)],.c (.b (.v (.bool false)))]).den) (spec_auto (args:=[.one (.a (lsX (Pp.odd x y h).C))]) (obs:=[]) (res:=.tup [.a [.b (.v (.bool true)),.b (.v (.pointer none)),.b (.v (.pointer none))],.c (.b (.v (.bool false)))]) (news:=[]) (evs:=[eqEvP true true x y r40 r40 false (odd_ne h)]) (Ns:=[(2,2004005)]) (m:=400) Tryz.func146 hmA (fun β=>by kernel_rfl) (by kernel_rfl) β w hh) (by kernel_rfl),by
  rcases p with _ | ⟨_ | _,_ | _⟩ | _<;>kernel_rfl⟩
theorem fitG_sz {z:GQ} (h:FitG z):GSz 1024 z:=⟨h.1.sz,h.2.sz⟩
theorem fitM_sz {m:MQ} (h:FitM m):MSz 1024 m:=⟨fitG_sz h.1,fitG_sz h.2.1,fitG_sz h.2.2.1,fitG_sz h.2.2.2⟩
def mCl (m:MQ):List Lf:=lsX (gC m.a)++lsX (gC m.b)++lsX (gC m.c)++lsX (gC m.d)++[.b (.v (.bool m.t))]
def ofE {z:GQ} (h:FitG z):Ev Tryz.prog:=(sOf (.ok z.re h.1) (.ok z.im h.2)).e
def of4E {m:MQ} (h:FitM m):List (Ev Tryz.prog):=[ofE h.1,ofE h.2.1,ofE h.2.2.1,ofE h.2.2.2]
def mB (k:Nat) (t:Bool):SC:=.a [.b (.z k 0),.b (.z (k+1) 0),.b (.z (k+2) 0),.b (.z (k+3) 0),.b (.z (k+4) 0),.b (.z (k+5) 0),.b (.z (k+6) 0),.b (.z (k+7) 0),.b (.v (.bool t))]
def mx0:SC:=.a [.b (.v (.pointer none)),.b (.v (.pointer none)),.b (.v (.pointer none)),.b (.v (.pointer none)),.b (.v (.pointer none)),.b (.v (.pointer none)),.b (.v (.pointer none)),.b (.v (.pointer none)),.b (.v (.bool false))]
theorem nil8 {P:Program} {f:FuncId} {args:Array Value} {w:World} {β:Env}
  (h:Calls P f args w fun e w'=>∃ xs:List Pl,freshS β w 0 xs∧e=.returned ((SV.tup [mx0,.c (.b (.v (.bool false)))]).den (extE β 0 xs))∧newHold w' [] xs∧Below w.heap.size w w') :
  Calls P f args w fun e w'=>∃ xs:List Pl,freshS β w 0 xs∧e=.returned ((SV.tup [mB 0 false,.c (.b (.v (.bool false)))]).den (extE β 0 xs))∧newHold w' any8 xs∧Below w.heap.size w w' :=
 h.mono fun e w' ⟨xs,h1,he,h2,h3⟩=>by
  have hn:AN w' nilPl:=fun _ h=>h.elim
  exact ⟨[nilPl,nilPl,nilPl,nilPl,nilPl,nilPl,nilPl,nilPl],fun x hx c hc=>by
   simp only [List.mem_cons,List.not_mem_nil,or_false,or_self] at hx
   subst hx
   exact hc.elim,by rw [he]; kernel_rfl,⟨hn,hn,hn,hn,hn,hn,hn,hn,trivial⟩,h3⟩
theorem openNum_ok (m:Mp) {r1 r2 r3 r4:Bool} (ha:(m.a.a.B&&m.a'.a.B)=r1) (hb:(m.b.a.B&&m.b'.a.B)=r2) (hc:(m.c.a.B&&m.c'.a.B)=r3) (hd:(m.d.a.B&&m.d'.a.B)=r4) (hf:(r1&&r2&&r3&&r4)=false) (β:Env) (w:World) (hh:∀ (k:Nat) (t:Thing),([]:List Thing)[k]?=some t→t.D w (β k)) :
  Calls Tryz.prog 134 (([.one (.a m.C)]:List SV).map (SV.den β)).toArray w fun e w'=>∃ xs:List Pl,freshS β w 0 xs∧e=.returned ((SV.tup [mx0,.c (.b (.v (.bool false)))]).den (extE β 0 xs))∧newHold w' [] xs∧Below w.heap.size w w':=by
 cases r1 with
 | false=>exact spec_auto (evs:=[(sOfW m.a m.a' ha).e,(sOfW m.b m.b' hb).e,(sOfW m.c m.c' hc).e,(sOfW m.d m.d' hd).e]) (Ns:=[(12,2016017)]) (m:=1200) Tryz.func134 hmA (fun β=>by kernel_rfl) (by kernel_rfl) β w hh
 | true=>cases r2 with
  | false=>exact spec_auto (evs:=[(sOfW m.a m.a' ha).e,(sOfW m.b m.b' hb).e,(sOfW m.c m.c' hc).e,(sOfW m.d m.d' hd).e]) (Ns:=[(12,2016017)]) (m:=1200) Tryz.func134 hmA (fun β=>by kernel_rfl) (by kernel_rfl) β w hh
  | true=>cases r3 with
   | false=>exact spec_auto (evs:=[(sOfW m.a m.a' ha).e,(sOfW m.b m.b' hb).e,(sOfW m.c m.c' hc).e,(sOfW m.d m.d' hd).e]) (Ns:=[(12,2016017)]) (m:=1200) Tryz.func134 hmA (fun β=>by kernel_rfl) (by kernel_rfl) β w hh
   | true=>cases r4 with
    | false=>exact spec_auto (evs:=[(sOfW m.a m.a' ha).e,(sOfW m.b m.b' hb).e,(sOfW m.c m.c' hc).e,(sOfW m.d m.d' hd).e]) (Ns:=[(12,2016017)]) (m:=1200) Tryz.func134 hmA (fun β=>by kernel_rfl) (by kernel_rfl) β w hh
    | true=>cases hf
def sOpenNum (m:Mp) {r1 r2 r3 r4:Bool} (ha:(m.a.a.B&&m.a'.a.B)=r1) (hb:(m.b.a.B&&m.b'.a.B)=r2) (hc:(m.c.a.B&&m.c'.a.B)=r3) (hd:(m.d.a.B&&m.d'.a.B)=r4) (hf:(r1&&r2&&r3&&r4)=false):Spec Tryz.prog :=
 ⟨134,Tryz.call134,[.one (.a m.C)],[],.tup [mB 0 false,.c (.b (.v (.bool false)))],any8,fun β w hh=>nil8 (openNum_ok m ha hb hc hd hf β w hh),by
  kernel_rfl⟩
def sOpenDet {m:MQ} (h:FitM m) (hd:gzero (mdet m)=true):Spec Tryz.prog :=
 ⟨134,Tryz.call134,[.one (.a (mCl m))],[],.tup [mB 0 false,.c (.b (.v (.bool false)))],any8,fun β w hh=>nil8 (spec_auto (obs:=[]) (args:=[.one (.a (mCl m))]) (res:=.tup [mx0,.c (.b (.v (.bool false)))]) (news:=[]) (evs:=of4E h++[(sDet ((fitM_sz h).mono (by decide))).e,(sZero hd).e]) (Ns:=[(12,2016017)]) (m:=1200) Tryz.func134 hmA (fun β=>by kernel_rfl) (by kernel_rfl) β w hh),by kernel_rfl⟩
def mayR (r1 r2 r3:Bool):Bool:=bif r1 then true else bif r2 then r3 else false
def sOpenM {m:MQ} (h:FitM m) {r1 r2 r3:Bool} (hd:gzero (mdet m)=false) (h1:gzero (gsub m.c (gint 1 0))=r1) (h2:gzero m.c=r2) (h3:gzero (gsub m.d (gint 1 0))=r3):Spec Tryz.prog :=
 ⟨134,Tryz.call134,[.one (.a (mCl m))],[],.tup [mA 0 m,.c (.b (.v (.bool (mayR r1 r2 r3))))],mT m,fun β w hh=>by
  have k1:GSz KE (gint 1 0):=(GSz.int (by decide) (by decide)).mono (by decide)
  cases r1
  · cases r2
    · exact spec_auto (obs:=[]) (evs:=of4E h++[(sDet ((fitM_sz h).mono (by decide))).e,(sZero hd).e,(sInt 1 0 (by decide) (by decide)).e,(sSame ((fitM_sz h).c.mono (by decide)) k1 h1).e,(sZero h2).e]) (Ns:=[(12,2016017)]) (m:=1200) Tryz.func134 hmA (fun β=>by kernel_rfl) (by kernel_rfl) β w hh
    · exact spec_auto (obs:=[]) (evs:=of4E h++[(sDet ((fitM_sz h).mono (by decide))).e,(sZero hd).e,(sInt 1 0 (by decide) (by decide)).e,(sSame ((fitM_sz h).c.mono (by decide)) k1 h1).e,(sZero h2).e,(sSame ((fitM_sz h).d.mono (by decide)) k1 h3).e]) (Ns:=[(12,2016017)]) (m:=1200) Tryz.func134 hmA (fun β=>by kernel_rfl) (by kernel_rfl) β w hh
  · exact spec_auto (obs:=[]) (evs:=of4E h++[(sDet ((fitM_sz h).mono (by decide))).e,(sZero hd).e,(sInt 1 0 (by decide) (by decide)).e,(sSame ((fitM_sz h).c.mono (by decide)) k1 h1).e]) (Ns:=[(12,2016017)]) (m:=1200) Tryz.func134 hmA (fun β=>by kernel_rfl) (by kernel_rfl) β w hh,by kernel_rfl⟩
end Go.Proofs.YtmfedaakeeiolaaGreat.Y
end
section
namespace Go.Proofs.YtmfedaakeeiolaaGreat
open Go.Proofs.YtmfedaakeeiolaaGreat.Y
open Go Go.RowKit
set_option maxRecDepth 100000
def Fp.mayE:Fp→Ev Tryz.prog
 | .ok x h=>eMayF x h
 | .no b c s t h hs ht=>eMay b c s t hs ht false ⟨fun e=>Bool.noConfusion e,fun e=>absurd e h⟩
def gMayE (a b:Fp):List (Ev Tryz.prog):=match a with
 | .ok ..=>[a.mayE,b.mayE]
 | .no ..=>[a.mayE]
def sGMay (a b:Fp):Y.Spec Tryz.prog :=
 Y.Spec.auto Tryz.call231 [.one (.a (a.C++b.C))] [] (.one (.c (.b (.v (.bool (a.B&&b.B)))))) []
  (gMayE a b) [] 400 Tryz.func231 hmA (by cases a<;>cases b<;>kernel_rfl) (fun β=>by cases a<;>cases b<;>kernel_rfl)
def sInfinity:Y.Spec Tryz.prog :=
 Y.Spec.auto Tryz.call230 [] [] (.one (.a (.b (.v (.bool true))::g0C))) [] [] [] 400 Tryz.func230 hmA (by kernel_rfl) (fun β=>by kernel_rfl)
def Pp.mayE:Pp→List (Ev Tryz.prog)
 | .inf=>[sInfinity.e]
 | .fin a b=>[(sGMay a b).e]
 | .odd x y h=>[sInfinity.e,eqEvP true true x y r40 r40 false (odd_ne h)]
def sPMay (p:Pp):Y.Spec Tryz.prog :=
 Y.Spec.auto Tryz.call106 [.one (.a p.C)] [] (.one (.c (.b (.v (.bool p.B))))) []
  p.mayE [(2,4)] 400 Tryz.func106 hmA (by rcases p with _ | ⟨_ | _,_ | _⟩ | _<;>kernel_rfl) (fun β=>by rcases p with _ | ⟨_ | _,_ | _⟩ | _<;>kernel_rfl)
theorem gres {z w:GQ} (h:z=w):SV.one (.a (gC z))=.one (.a (gC w)):=by rw [h]
theorem Sz.le {i k:Nat} {x:Rat} (h:Sz i x) (hk:Nat.ble i k=true:=by decide):Sz k x:=h.mono (Nat.le_of_ble_eq_true hk)
theorem GSz.le {i k:Nat} {z:GQ} (h:GSz i z) (hk:Nat.ble i k=true:=by decide):GSz k z:=h.mono (Nat.le_of_ble_eq_true hk)
theorem gsub_eq (z w:GQ):gadd z (gneg w)=gsub z w:=by
 unfold gadd gneg gsub
 simp only [Rat.sub_eq_add_neg]
theorem gdiv_eq (z w:GQ):gscale (gmul z (gconj w)) (Rat.divInt 1 1/gnorm w)=gdiv z w:=by
 unfold gdiv
 congr 1
 rw [Rat.div_def,show (Rat.divInt 1 1)=1 by rfl,Rat.one_mul]
abbrev svG (z:GQ):SV:=.one (.a (gC z))
abbrev svF (x:Rat):SV:=.one (.a (fC x))
section
variable {z w:GQ} {x:Rat}
def sR4Neg (z:GQ):Y.Spec Tryz.prog:=Y.Spec.auto Tryz.call156 [svG z] [] (svG (gneg z)) [] [(sR3Neg z.re).e,(sR3Neg z.im).e] [(1,7)] 400 Tryz.func156 hmA (by kernel_rfl) (fun β=>by kernel_rfl)
def sR4Conj (z:GQ):Y.Spec Tryz.prog:=Y.Spec.auto Tryz.call192 [svG z] [] (svG (gconj z)) [] [(sR3Neg z.im).e] [(1,6)] 400 Tryz.func192 hmA (by kernel_rfl) (fun β=>by kernel_rfl)
def sR4Plus (hz:GSz KE z) (hw:GSz KE w):Y.Spec Tryz.prog:=Y.Spec.auto Tryz.call53 [svG z,svG w] [] (svG (gadd z w)) [] [(sR3Plus hz.1.le hw.1.le).e,(sR3Plus hz.2.le hw.2.le).e] [(1,11)] 400 Tryz.func53 hmA (by kernel_rfl) (fun β=>by kernel_rfl)
def sR4Minus (hz:GSz KE z) (hw:GSz KE w):Y.Spec Tryz.prog:=(Y.Spec.auto Tryz.call191 [svG z,svG w] [] (svG (gadd z (gneg w))) [] [(sR4Neg w).e,(sR4Plus hz hw.neg).e] [(1,4)] 400 Tryz.func191 hmA (by kernel_rfl) (fun β=>by kernel_rfl)).conv (svG (gsub z w)) (gres (gsub_eq z w))
def sR4Times (hz:GSz KE z) (hw:GSz KE w):Y.Spec Tryz.prog:=Y.Spec.auto Tryz.call54 [svG z,svG w] [] (svG (gmul z w)) []
 [(sR3Times hz.1.le hw.1.le).e,(sR3Times hz.2.le hw.2.le).e,(sR3Minus (hz.1.mul hw.1).le (hz.2.mul hw.2).le).e,(sR3Times hz.1.le hw.2.le).e,(sR3Times hz.2.le hw.1.le).e,(sR3Plus (hz.1.mul hw.2).le (hz.2.mul hw.1).le).e] [(1,12),(2,12)] 400 Tryz.func54 hmA (by kernel_rfl) (fun β=>by kernel_rfl)
def sR4Dot (hz:GSz KE z) (hw:GSz KE w):Y.Spec Tryz.prog:=Y.Spec.auto Tryz.call289 [svG z,svG w] [] (svF (z.re*w.re+z.im*w.im)) []
 [(sR3Times hz.1.le hw.1.le).e,(sR3Times hz.2.le hw.2.le).e,(sR3Plus (hz.1.mul hw.1).le (hz.2.mul hw.2).le).e] [(1,11)] 400 Tryz.func289 hmA (by kernel_rfl) (fun β=>by kernel_rfl)
def sR4Norm (hz:GSz KE z):Y.Spec Tryz.prog:=Y.Spec.auto Tryz.call181 [svG z] [] (svF (gnorm z)) [] [(sR4Dot hz hz).e] [] 400 Tryz.func181 hmA (by kernel_rfl) (fun β=>by kernel_rfl)
def sR4Scale (hz:GSz K3 z) (hx:Sz K3 x):Y.Spec Tryz.prog:=Y.Spec.auto Tryz.call194 [svG z,svF x] [] (svG (gscale z x)) [] [(sR3Times hz.1 hx).e,(sR3Times hz.2 hx).e] [(1,9)] 400 Tryz.func194 hmA (by kernel_rfl) (fun β=>by kernel_rfl)
theorem sz_one:Sz 1 (Rat.divInt 1 1):=Sz.small (by decide)
def sR4Over (hz:GSz KE z) (hw:GSz KE w) (h0:gzero w=false):Y.Spec Tryz.prog:=(Y.Spec.auto Tryz.call71 [svG z,svG w] [] (svG (gscale (gmul z (gconj w)) (Rat.divInt 1 1/gnorm w))) []
 [(sR4Conj w).e,(sR4Times hz hw.conj).e,(sR3Int 1 (by decide)).e,(sR4Norm hw).e,(sR3Over sz_one.le hw.norm.le (gnorm_ne h0)).e,(sR4Scale (hz.mul hw.conj).le (sz_one.div hw.norm (gnorm_ne h0)).le).e] [(1,9)] 400 Tryz.func71 hmA (by kernel_rfl) (fun β=>by kernel_rfl)).conv (svG (gdiv z w)) (gres (gdiv_eq z w))
end
def sR4Int (n m:Int) (hn : -9223372036854775808≤n∧n≤9223372036854775807:=by decide) (hm : -9223372036854775808≤m∧m≤9223372036854775807:=by decide):Y.Spec Tryz.prog :=
 Y.Spec.auto Tryz.call50 [.one (.c (.b (.v (.int .i64 n)))),.one (.c (.b (.v (.int .i64 m))))] [] (svG (gint n m)) [] [(sR3Int n hn).e,(sR3Int m hm).e] [] 400 Tryz.func50 hmA (by kernel_rfl) (fun β=>by kernel_rfl)
theorem sign_num (x:Rat) {b:Bool} (h:decide (x=0)=b):Value.bool (x.num.sign==0)=.bool b:=sign_lit h
def sR4Zero (z:GQ) {b:Bool} (hb:gzero z=b):Y.Spec Tryz.prog :=
 ⟨48,Tryz.call48,[svG z],[],.one (.c (.b (.v (.bool b)))),[],fun β w hh=>by
  cases h1:decide (z.re=0) with
  | false =>
   obtain rfl:b=false:=by rw [← hb]; unfold gzero; rw [h1]; rfl
   exact spec_auto (evs:=[(sR3Sign (x:=z.re) rfl).e,.eqv 6 (.bool (z.re.num.sign==0)) (.bool false) (sign_num _ h1)]) (Ns:=[]) (m:=400) Tryz.func48 hmA (fun β=>by kernel_rfl) (by kernel_rfl) β w hh
  | true =>
   obtain rfl:b=decide (z.im=0):=by rw [← hb]; unfold gzero; rw [h1]; rfl
   cases h2:decide (z.im=0) with
   | false=>exact spec_auto (evs:=[(sR3Sign (x:=z.re) rfl).e,.eqv 6 (.bool (z.re.num.sign==0)) (.bool true) (sign_num _ h1),(sR3Sign (x:=z.im) rfl).e,.eqv 11 (.bool (z.im.num.sign==0)) (.bool false) (sign_num _ h2)]) (Ns:=[]) (m:=400) Tryz.func48 hmA (fun β=>by kernel_rfl) (by kernel_rfl) β w hh
   | true=>exact spec_auto (evs:=[(sR3Sign (x:=z.re) rfl).e,.eqv 6 (.bool (z.re.num.sign==0)) (.bool true) (sign_num _ h1),(sR3Sign (x:=z.im) rfl).e,.eqv 11 (.bool (z.im.num.sign==0)) (.bool true) (sign_num _ h2)]) (Ns:=[]) (m:=400) Tryz.func48 hmA (fun β=>by kernel_rfl) (by kernel_rfl) β w hh,by kernel_rfl⟩
def sR4Fits (z:GQ) {b:Bool} (hb:b=true↔FitG z):Y.Spec Tryz.prog :=
 ⟨190,Tryz.call190,[svG z],[],.one (.c (.b (.v (.bool b)))),[],fun β w hh=>by
  by_cases h1:Fit z.re
  · have h2:b=true↔Fit z.im:=hb.trans ⟨fun h=>h.2,fun h=>⟨h1,h⟩⟩
    cases b<;>exact spec_auto (evs:=[eFFit (iff_true_of h1),eFFit h2]) (Ns:=[]) (m:=400) Tryz.func190 hmA (fun β=>by kernel_rfl) (by kernel_rfl) β w hh
  · obtain rfl:=eq_false_of hb fun h=>h1 h.1
    exact spec_auto (evs:=[eFFit (iff_false_of h1)]) (Ns:=[]) (m:=400) Tryz.func190 hmA (fun β=>by kernel_rfl) (by kernel_rfl) β w hh,by kernel_rfl⟩
def Fp.may3:Fp→Y.Spec Tryz.prog
 | .ok x h=>sR3May _ _ _ _ true (iff_true_of (fitF x h))
 | .no b c s t h hs ht=>sR3May b c s t false (iff_false_of h)
def may4E (a b:Fp):List (Ev Tryz.prog):=match a with
 | .ok ..=>[a.may3.e,b.may3.e]
 | .no ..=>[a.may3.e]
def sR4May (a b:Fp):Y.Spec Tryz.prog :=
 Y.Spec.auto Tryz.call45 [.one (.a (a.C++b.C))] [] (.one (.c (.b (.v (.bool (a.B&&b.B)))))) [] (may4E a b) [] 400 Tryz.func45 hmA (by cases a<;>cases b<;>kernel_rfl) (fun β=>by cases a<;>cases b<;>kernel_rfl)
end Go.Proofs.YtmfedaakeeiolaaGreat
end
