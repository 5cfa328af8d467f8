/- EyB, EyD, EyE, MayP, Rs4, Pts, Alg, Rs7, Nrm, MoC, EqM, MkA, Row, Osp, GsA, GsB, IntG. -/
import Derived.Deep.MidRow
import Derived.Test.YthkpghhoffihmaaGreatDoorGk10
set_option linter.unnecessarySimpa false
set_option linter.unusedVariables false
set_option linter.unusedSimpArgs false
section
namespace Go.Proofs.YthkpghhoffihmaaGreatDoor.Y
open Go Go.RowKit
set_option maxRecDepth 100000
abbrev lsX (l:List Lf):List Lf:=l
def BY (n:Int) (w:World) (g:Pl):Prop:=(∀ c,g.F c↔c=g.b)∧Byt w (.slice (some ⟨g.b,0,none⟩) (led n.natAbs).length (led n.natAbs).length) (led n.natAbs).reverse
theorem by_stable (n:Int):Stable (BY n) :=
 ⟨fun w g ⟨h,k⟩ c hc=>by rw [(h c).1 hc]; exact k.open_.2.2.1,fun w w' g ⟨h,k⟩ hb=>⟨h,k.on hb⟩,
  fun w w' g b o m n ⟨h,k⟩ hs ht hne=>⟨h,by
   obtain ⟨h0,b',cap,cs,t,fr,h1,h2,h3⟩:=k
   have hb:g.b=b':=by injection h1 with h1 _ _; cases Option.some.inj h1; rfl
   subst hb
   exact ⟨h0,g.b,cap,cs,t,fr,h1,by rw [ht.block g.b (heap_some_lt h2) fun e=>hne ((h b).2 e.symm)]; exact h2,h3⟩⟩⟩
def bytT (n:Int):Thing:=thing (BY n) (by_stable n)
theorem extE_s (β:Env) (n a b:Nat) (g:Pl):(SV.one (.c (.b (.s n 0 a b)))).den (extE β n [g])=.slice (some ⟨g.b,0,none⟩) a b:=by
 have:=extE_in (β:=β) (n:=n) (i:=0) (xs:=[g]) rfl
 rw [Nat.add_zero] at this
 simp only [SV.den,SC.den,Lf.den,Lf0.den,this]
def nBytes {n:Int} (hn:sz n≤KB):Ev Tryz.prog:=dyn1 fun k m=>.call 238 Tryz.call238 (fun β=>#[.pointer ((β k).v 0)]) [(k,(intT n).ob)] m (.one (.c (.b (.s m 0 (led n.natAbs).length (led n.natAbs).length)))) [bytT n] (fun β w h=>by
 obtain ⟨a,ha,ka⟩:=needI (n:=n) (k:=k) h (by simp)
 simp only [ha.1]
 refine (Bytes_at ka (okn_sz hn)).mono fun e w' ⟨g,he,h1,h2,h3⟩=>⟨[newPl g],fun x hx c hc=>?_,by rw [he,extE_s]; rfl,⟨⟨fun _=>Iff.rfl,h2⟩,trivial⟩,h3⟩
 obtain rfl:=List.mem_singleton.1 hx
 rw [((newPl_one g).1 c).1 hc]
 exact .inl h1)
def slOf:SV→Nat
 | .one (.c (.b (.s k _ _ _)))=>k
 | _=>0
def rdStr (d t:Nat) (n:Int) (k:Nat):Ev Tryz.prog:=.rd d (.convert 57 9 (.tmp t)) (fun β=>[.slice (some ⟨(β k).b,0,none⟩) (led n.natAbs).length (led n.natAbs).length]) [(k,(bytT n).ob)] 0 (.one (.c (.b (.v (.string (mag n.natAbs)))))) [] (fun β w h ρ o ho hx=>by
 have h1:BY n w (β k):=h (k,(bytT n).ob) (by simp)
 have h2:ρ (.tmp t)=.slice (some ⟨(β k).b,0,none⟩) (led n.natAbs).length (led n.natAbs).length:=by simpa [Op.operands] using hx
 refine ⟨[],w,(fun _ h=>by cases h),?_,trivial,Below.refl _ _⟩
 unfold execOp
 rw [ho]
 simp only [h2]
 have h3:=string_of_byt h1.2
 simp [go_sem,h3]
 rfl)
def dStr (n:Int):Ev Tryz.prog:=.dyn (fun o _ _=>match o.op with
 | .convert a b (.tmp _)=>Nat.beq a 57&&Nat.beq b 9
 | _=>false) fun o xs _=>match o.op with
 | .convert _ _ (.tmp t)=>lit (slOf (xs.getD 0 undefS)) fun k=>rdStr (o.dst.getD 0) t n k
 | _=>.eqv 0 undef undef rfl
theorem frac_ok {x:Rat} (hx:Sz KB x) (β:Env) (w:World) (hh:∀ (k:Nat) (t:Thing),[ratM x][k]?=some t→t.D w (β k)) :
  Calls Tryz.prog 149 (([rV 0]:List SV).map (SV.den β)).toArray w fun e w'=>∃ xs:List Pl,freshS β w 1 xs∧e=.returned ((SV.tup [.a [.b (.v (.bool (ansB x))),.b (.v (.string (ansS x))),.b (.v (.bool false)),.b (.v (.string (ansD x)))],.c (.b (.v (.int .i64 (ansK x))))]).den (extE β 1 xs))∧newHold w' [] xs∧Below w.heap.size w w':=by
 cases h1:decide (1024<sz x.num) with
 | true =>
  have hf:¬ Fit x:=fun h=>by have:=of_decide_eq_true h1; have:=h.1; unfold sz at *; omega
  rw [show ansB x=false from if_neg hf,show ansS x=⟨#[]⟩ from if_neg hf,show ansD x=⟨#[]⟩ from if_neg hf,show ansK x=4 from if_neg hf]
  exact spec_auto (obs:=[ratM x]) (Ns:=[(5,10)]) (m:=400) (evs:=[(sRat x).e,nNum x,nBytes (n:=x.num) (Nat.le_trans hx.1 (by decide)),nDenom x,nBytes (n:=(x.den:Int)) (Nat.le_trans hx.2 (by decide)),.eqv 16 (.bool (decide ((1024:Int)<((led x.num.natAbs).length:Int)))) (.bool true) (led_gt h1)]) Tryz.func149 hmA (fun β=>by kernel_rfl) (by kernel_rfl) β w hh
 | false=>cases h2:decide (1024<sz (x.den:Int)) with
 | true =>
  have hf:¬ Fit x:=fun h=>by have:=of_decide_eq_true h2; have:=h.2; unfold sz at *; rw [Int.natAbs_natCast] at *; omega
  rw [show ansB x=false from if_neg hf,show ansS x=⟨#[]⟩ from if_neg hf,show ansD x=⟨#[]⟩ from if_neg hf,show ansK x=4 from if_neg hf]
  exact spec_auto (obs:=[ratM x]) (Ns:=[(5,10)]) (m:=400) (evs:=[(sRat x).e,nNum x,nBytes (n:=x.num) (Nat.le_trans hx.1 (by decide)),nDenom x,nBytes (n:=(x.den:Int)) (Nat.le_trans hx.2 (by decide)),.eqv 16 (.bool (decide ((1024:Int)<((led x.num.natAbs).length:Int)))) (.bool false) (led_gt h1),.eqv 20 (.bool (decide ((1024:Int)<((led (x.den:Int).natAbs).length:Int)))) (.bool true) (led_gt h2)]) Tryz.func149 hmA (fun β=>by kernel_rfl) (by kernel_rfl) β w hh
 | false =>
  have hf:Fit x:=⟨by have:=of_decide_eq_false h1; unfold sz at *; omega,by have:=of_decide_eq_false h2; unfold sz at *; rw [Int.natAbs_natCast] at *; omega⟩
  rw [show ansB x=decide (x.num<0) from if_pos hf,show ansS x=mag x.num.natAbs from if_pos hf,show ansD x=mag (x.den:Int).natAbs from if_pos hf,show ansK x=0 from if_pos hf]
  exact spec_auto (obs:=[ratM x]) (Ns:=[(5,10)]) (m:=400) (evs:=[(sRat x).e,nNum x,nBytes (n:=x.num) (Nat.le_trans hx.1 (by decide)),nDenom x,nBytes (n:=(x.den:Int)) (Nat.le_trans hx.2 (by decide)),.eqv 16 (.bool (decide ((1024:Int)<((led x.num.natAbs).length:Int)))) (.bool false) (led_gt h1),.eqv 20 (.bool (decide ((1024:Int)<((led (x.den:Int).natAbs).length:Int)))) (.bool false) (led_gt h2),nSign (x:=x) rfl,.eqv 25 (.bool (decide (x.num.sign<0))) (.bool (decide (x.num<0))) sign_lt,dStr x.num,dStr (x.den:Int)]) Tryz.func149 hmA (fun β=>by kernel_rfl) (by kernel_rfl) β w hh
noncomputable def sFrac {x:Rat} (hx:Sz KB x):Spec Tryz.prog :=
 ⟨149,Tryz.call149,[rV 0],[ratM x],(SV.tup [.a [.b (.v (.bool (ansB x))),.b (.v (.string (ansS x))),.b (.v (.bool false)),.b (.v (.string (ansD x)))],.c (.b (.v (.int .i64 (ansK x))))]),[],frac_ok hx,by kernel_rfl⟩
def AN (w:World) (g:Pl):Prop:=∀ c,g.F c→c<w.heap.size
theorem an_stable:Stable AN :=
 ⟨fun w g h=>h,fun w w' g h hb c hc=>Nat.lt_of_lt_of_le (h c hc) hb.size,fun w w' g b o m n h hs ht hne c hc=>Nat.lt_of_lt_of_le (h c hc) (ht.below (B:=0) (Nat.zero_le _) (Nat.zero_le _)).size⟩
def anyT:Thing:=⟨AN,an_stable,0,AN,an_stable,fun _ _ h=>h,true,fun _ _ _ h=>h.elim,true,fun _ _ _ h=>h.elim,false,fun h=>(Bool.noConfusion h),false,fun h=>(Bool.noConfusion h)⟩
theorem an_of {D:World→Pl→Prop} (st:Stable D) {w:World} {g:Pl} (h:D w g):AN w g:=st.lt w g h
def exFormed (b:Bool) (s:ByteArray) (r:Bool) (hr:r=true↔FormedB b s):Ev Tryz.prog:=.ret 264 Tryz.call264 #[.agg #[.bool b,.string s]] _ (fun w=>exformed_any b s r hr)
def exWhole (b:Bool) (s:ByteArray) (hs:s.size≤4294967296) (x:Int) (hx:numOf b s=x):Ev Tryz.prog:=dyn1 fun _ n=>.call 265 Tryz.call265 (fun _=>#[.agg #[.bool b,.string s]]) [] n (.one (.c (.b (.z n 0)))) [intT x] (fun β w _=>one_int (by rw [← hx]; exact exwhole_any b s hs) β n _)
theorem ratNo_ok {b c:Bool} {s t:ByteArray} (h:¬ IsFrac (rawV b c s t)) (β:Env) (w:World) (hh:∀ (k:Nat) (t:Thing),([]:List Thing)[k]?=some t→t.D w (β k)):Calls Tryz.prog 134 (([.one (.a [.b (.v (.bool b)),.b (.v (.string s)),.b (.v (.bool c)),.b (.v (.string t))])]:List SV).map (SV.den β)).toArray w fun e w'=>∃ xs:List Pl,freshS β w 0 xs∧e=.returned ((SV.one (.c (.b (.v (.pointer none))))).den (extE β ([]:List Thing).length xs))∧newHold w' [] xs∧Below w.heap.size w w':=by
 obtain ⟨r1,h1⟩:=formedB_dec b s
 obtain ⟨r2,h2⟩:=formedB_dec c t
 cases r1 with
 | false=>exact spec_ok (args:=[.one (.a [.b (.v (.bool b)),.b (.v (.string s)),.b (.v (.bool c)),.b (.v (.string t))])]) (obs:=[]) (idx:=[]) (Ns:=[]) (m:=400) (evs:=[exFormed b s false h1]) Tryz.func134 hmA (fun β=>by kernel_rfl) (by kernel_rfl) β w hh
 | true=>cases r2 with
 | false=>exact spec_ok (args:=[.one (.a [.b (.v (.bool b)),.b (.v (.string s)),.b (.v (.bool c)),.b (.v (.string t))])]) (obs:=[]) (idx:=[]) (Ns:=[]) (m:=400) (evs:=[exFormed b s true h1,exFormed c t false h2]) Tryz.func134 hmA (fun β=>by kernel_rfl) (by kernel_rfl) β w hh
 | true=>cases c with
 | true=>exact spec_ok (args:=[.one (.a [.b (.v (.bool b)),.b (.v (.string s)),.b (.v (.bool true)),.b (.v (.string t))])]) (obs:=[]) (idx:=[]) (Ns:=[]) (m:=400) (evs:=[exFormed b s true h1,exFormed true t true h2]) Tryz.func134 hmA (fun β=>by kernel_rfl) (by kernel_rfl) β w hh
 | false=>cases h4:decide (t.size=0) with
 | true=>exact spec_ok (args:=[.one (.a [.b (.v (.bool b)),.b (.v (.string s)),.b (.v (.bool false)),.b (.v (.string t))])]) (obs:=[]) (idx:=[]) (Ns:=[]) (m:=400) (evs:=[exFormed b s true h1,exFormed false t true h2,.eqv 25 (.bool (t.toList==(⟨#[]⟩:ByteArray).toList)) (.bool true) (eq_empty h4)]) Tryz.func134 hmA (fun β=>by kernel_rfl) (by kernel_rfl) β w hh
 | false=>cases h5:decide (1024<s.size) with
 | true=>exact spec_ok (args:=[.one (.a [.b (.v (.bool b)),.b (.v (.string s)),.b (.v (.bool false)),.b (.v (.string t))])]) (obs:=[]) (idx:=[]) (Ns:=[]) (m:=400) (evs:=[exFormed b s true h1,exFormed false t true h2,.eqv 25 (.bool (t.toList==(⟨#[]⟩:ByteArray).toList)) (.bool false) (eq_empty h4),.eqv 32 (.bool (decide ((1024:Int)<(s.size:Int)))) (.bool true) (len_gt h5)]) Tryz.func134 hmA (fun β=>by kernel_rfl) (by kernel_rfl) β w hh
 | false=>cases h6:decide (1024<t.size) with
 | true=>exact spec_ok (args:=[.one (.a [.b (.v (.bool b)),.b (.v (.string s)),.b (.v (.bool false)),.b (.v (.string t))])]) (obs:=[]) (idx:=[]) (Ns:=[]) (m:=400) (evs:=[exFormed b s true h1,exFormed false t true h2,.eqv 25 (.bool (t.toList==(⟨#[]⟩:ByteArray).toList)) (.bool false) (eq_empty h4),.eqv 32 (.bool (decide ((1024:Int)<(s.size:Int)))) (.bool false) (len_gt h5),.eqv 39 (.bool (decide ((1024:Int)<(t.size:Int)))) (.bool true) (len_gt h6)]) Tryz.func134 hmA (fun β=>by kernel_rfl) (by kernel_rfl) β w hh
 | false =>
  obtain ⟨n,e1⟩:∃ n,numOf b s=n:=⟨_,rfl⟩
  obtain ⟨d,e2⟩:∃ d,numOf false t=d:=⟨_,rfl⟩
  have l1:s.size≤1024:=by have:=of_decide_eq_false h5; omega
  have l2:t.size≤1024:=by have:=of_decide_eq_false h6; omega
  have l0:=of_decide_eq_false h4
  obtain ⟨f1,f2⟩:=formed_num (h1.1 rfl)
  obtain ⟨f3,f4⟩:=formed_num (h2.1 rfl)
  rw [e1] at f1 f2
  rw [e2] at f3 f4
  have z1:s.size≤4294967296:=by omega
  have z2:t.size≤4294967296:=by omega
  have h0:d≠0:=by
   rintro rfl
   have:sz 0=0:=Nat.le_zero.1 (sz_le.2 (by decide))
   unfold sz at this
   rw [f4] at this
   exact l0 this
  have k1:sz n≤KB:=by unfold sz; rw [f2]; exact Nat.le_trans l1 (by decide)
  have k2:sz d≤KB:=by unfold sz; rw [f4]; exact Nat.le_trans l2 (by decide)
  cases h7:decide ((Rat.divInt n d).num=n) with
  | false=>exact spec_ok (args:=[.one (.a [.b (.v (.bool b)),.b (.v (.string s)),.b (.v (.bool false)),.b (.v (.string t))])]) (obs:=[]) (idx:=[]) (Ns:=[]) (m:=400) (evs:=[exFormed b s true h1,exFormed false t true h2,.eqv 25 (.bool (t.toList==(⟨#[]⟩:ByteArray).toList)) (.bool false) (eq_empty h4),.eqv 32 (.bool (decide ((1024:Int)<(s.size:Int)))) (.bool false) (len_gt h5),.eqv 39 (.bool (decide ((1024:Int)<(t.size:Int)))) (.bool false) (len_gt h6),exWhole b s z1 n e1,exWhole false t z2 d e2,mkR,fSetFrac h0 k1 k2,nNum (Rat.divInt n d),nIntCmp (a:=(Rat.divInt n d).num) (b:=n) rfl,.eqv 55 (.bool (cmpI (Rat.divInt n d).num n != 0)) (.bool true) (cmp_ne h7)]) Tryz.func134 hmA (fun β=>by kernel_rfl) (by kernel_rfl) β w hh
  | true=>cases h8:decide (((Rat.divInt n d).den:Int)=d) with
  | false=>exact spec_ok (args:=[.one (.a [.b (.v (.bool b)),.b (.v (.string s)),.b (.v (.bool false)),.b (.v (.string t))])]) (obs:=[]) (idx:=[]) (Ns:=[]) (m:=400) (evs:=[exFormed b s true h1,exFormed false t true h2,.eqv 25 (.bool (t.toList==(⟨#[]⟩:ByteArray).toList)) (.bool false) (eq_empty h4),.eqv 32 (.bool (decide ((1024:Int)<(s.size:Int)))) (.bool false) (len_gt h5),.eqv 39 (.bool (decide ((1024:Int)<(t.size:Int)))) (.bool false) (len_gt h6),exWhole b s z1 n e1,exWhole false t z2 d e2,mkR,fSetFrac h0 k1 k2,nNum (Rat.divInt n d),nIntCmp (a:=(Rat.divInt n d).num) (b:=n) rfl,.eqv 55 (.bool (cmpI (Rat.divInt n d).num n != 0)) (.bool false) (cmp_ne h7),nDenom (Rat.divInt n d),nIntCmp (a:=((Rat.divInt n d).den:Int)) (b:=d) rfl,.eqv 61 (.bool (cmpI ((Rat.divInt n d).den:Int) d != 0)) (.bool true) (cmp_ne h8)]) Tryz.func134 hmA (fun β=>by kernel_rfl) (by kernel_rfl) β w hh
  | true =>
   refine absurd ?_ h
   refine isFrac_doc.2 ⟨⟨l1,l2⟩,h1.1 rfl,h2.1 rfl,?_,?_⟩
   · rw [e2,← of_decide_eq_true h8]
     exact Int.natCast_pos.2 (Rat.divInt n d).den_pos
   · rw [e1,e2]
     have:=(Rat.divInt n d).reduced
     rw [of_decide_eq_true h7] at this
     have h9:(Rat.divInt n d).den=d.natAbs:=by have:=of_decide_eq_true h8; omega
     rw [h9] at this
     exact this
def sRatNo {b c:Bool} {s t:ByteArray} (h:¬ IsFrac (rawV b c s t)):Spec Tryz.prog :=
 ⟨134,Tryz.call134,[.one (.a [.b (.v (.bool b)),.b (.v (.string s)),.b (.v (.bool c)),.b (.v (.string t))])],[],(SV.one (.c (.b (.v (.pointer none))))),[],ratNo_ok h,by kernel_rfl⟩
theorem ratIn_ok {x:Rat} (hx:Fit x) (β:Env) (w:World) (hh:∀ (k:Nat) (t:Thing),([]:List Thing)[k]?=some t→t.D w (β k)):Calls Tryz.prog 134 (([.one (.a [.b (.v (.bool (decide (x.num<0)))),.b (.v (.string (mag x.num.natAbs))),.b (.v (.bool false)),.b (.v (.string (mag x.den)))])]:List SV).map (SV.den β)).toArray w fun e w'=>∃ xs:List Pl,freshS β w 0 xs∧e=.returned ((SV.one (.c (.b (.z 0 0)))).den (extE β ([]:List Thing).length xs))∧newHold w' [ratT x] xs∧Below w.heap.size w w':=by
 obtain ⟨n,en⟩:∃ n,x.num=n:=⟨_,rfl⟩
 obtain ⟨d,ed⟩:∃ d:Int,(x.den:Int)=d:=⟨_,rfl⟩
 have hxe:x=Rat.divInt n d:=by rw [← en,← ed,Rat.num_divInt_den]
 obtain ⟨b,eb⟩:∃ b,decide (x.num<0)=b:=⟨_,rfl⟩
 obtain ⟨s,es⟩:∃ s,mag x.num.natAbs=s:=⟨_,rfl⟩
 obtain ⟨t,et⟩:∃ t,mag x.den=t:=⟨_,rfl⟩
 have e1:numOf b s=n:=by rw [← eb,← es,← en]; exact numOf_mag x.num
 have e2:numOf false t=d:=by
  have:=numOf_mag (x.den:Int)
  rw [show decide ((x.den:Int)<0)=false by simp,Int.natAbs_natCast] at this
  rw [← et,← ed]; exact this
 obtain ⟨⟨l1,l2⟩,q1,q2,q3,_⟩:=isFrac_doc.1 (fitF x hx)
 rw [eb,es] at q1
 rw [et] at q2 q3
 rw [es] at l1
 rw [et] at l2
 rw [e2] at q3
 have h1:true=true↔FormedB b s:=iff_true_of q1
 have h2:true=true↔FormedB false t:=iff_true_of q2
 have h4:decide (t.size=0)=false:=decide_eq_false fun h=>by
  obtain rfl:=empty_data h
  rw [show numOf false ⟨#[]⟩=0 from rfl] at e2
  omega
 have h5:decide (1024<s.size)=false:=decide_eq_false (by omega)
 have h6:decide (1024<t.size)=false:=decide_eq_false (by omega)
 have z1:s.size≤4294967296:=by omega
 have z2:t.size≤4294967296:=by omega
 have h0:d≠0:=by omega
 have k1:sz n≤KB:=by rw [← en]; unfold sz; rw [es]; exact Nat.le_trans l1 (by decide)
 have k2:sz d≤KB:=by rw [← ed]; unfold sz; rw [Int.natAbs_natCast,et]; exact Nat.le_trans l2 (by decide)
 have h7:decide ((Rat.divInt n d).num=n)=true:=decide_eq_true (by rw [← hxe]; exact en)
 have h8:decide (((Rat.divInt n d).den:Int)=d)=true:=decide_eq_true (by rw [← hxe]; exact ed)
 rw [eb,es,et]
 clear eb es et
 subst hxe
 exact spec_ok (args:=[.one (.a [.b (.v (.bool b)),.b (.v (.string s)),.b (.v (.bool false)),.b (.v (.string t))])]) (obs:=[]) (idx:=[4]) (Ns:=[]) (m:=400) (evs:=[exFormed b s true h1,exFormed false t true h2,.eqv 25 (.bool (t.toList==(⟨#[]⟩:ByteArray).toList)) (.bool false) (eq_empty h4),.eqv 32 (.bool (decide ((1024:Int)<(s.size:Int)))) (.bool false) (len_gt h5),.eqv 39 (.bool (decide ((1024:Int)<(t.size:Int)))) (.bool false) (len_gt h6),exWhole b s z1 n e1,exWhole false t z2 d e2,mkR,fSetFrac h0 k1 k2,nNum (Rat.divInt n d),nIntCmp (a:=(Rat.divInt n d).num) (b:=n) rfl,.eqv 55 (.bool (cmpI (Rat.divInt n d).num n != 0)) (.bool false) (cmp_ne h7),nDenom (Rat.divInt n d),nIntCmp (a:=((Rat.divInt n d).den:Int)) (b:=d) rfl,.eqv 61 (.bool (cmpI ((Rat.divInt n d).den:Int) d != 0)) (.bool false) (cmp_ne h8)]) Tryz.func134 hmA (fun β=>by kernel_rfl) (by kernel_rfl) β w hh
def sRatIn {x:Rat} (hx:Fit x):Spec Tryz.prog :=
 ⟨134,Tryz.call134,[.one (.a [.b (.v (.bool (decide (x.num<0)))),.b (.v (.string (mag x.num.natAbs))),.b (.v (.bool false)),.b (.v (.string (mag x.den)))])],[],(.one (.c (.b (.z 0 0)))),[ratT x],ratIn_ok hx,by kernel_rfl⟩
def rdNe (d t:Nat) (x:Rat) (k:Nat):Ev Tryz.prog:=.rd d (.binOp .neq 163 (.tmp t) (.const (.pointer none)) 163) (fun β=>[.pointer ((β k).v 0),.pointer none]) [(k,(ratT x).ob)] 0 (.one (.c (.b (.v (.bool true))))) [] (fun β w h ρ o ho hx=>by
 obtain ⟨a,ha,ka⟩:=needP (x:=x) (k:=k) h (by simp)
 have h2:ρ (.tmp t)=.pointer (some ⟨a,0,none⟩)∧ρ (.const (.pointer none))=.pointer none:=by
  rw [ha.1] at hx
  simpa [Op.operands] using hx
 refine ⟨[],w,(fun _ h=>by cases h),?_,trivial,Below.refl _ _⟩
 unfold execOp
 rw [ho]
 simp only [h2.1,h2.2]
 kernel_rfl)
def dNe (x:Rat):Ev Tryz.prog:=.dyn (fun o _ _=>match o.op with
 | .binOp .neq a (.tmp _) (.const (.pointer none)) _=>Nat.beq a 163
 | _=>false) fun o xs _=>match o.op with
 | .binOp _ _ (.tmp t) _ _=>lit (ptOf (xs.getD 0 undefS)) fun k=>rdNe (o.dst.getD 0) t x k
 | _=>.eqv 0 undef undef rfl
def fpC (a:Fp):List Lf:=lsX a.C
def ofT:Fp→Fp→List Thing
 | .ok x _,.ok y _=>[ratT x,ratT y]
 | _,_=>[anyT,anyT]
theorem sOf_ok (a b:Fp) (β:Env) (w:World) (hh:∀ (k:Nat) (t:Thing),([]:List Thing)[k]?=some t→t.D w (β k)) :
  Calls Tryz.prog 219 (([.one (.a (fpC a++fpC b))]:List SV).map (SV.den β)).toArray w fun e w'=>∃ xs:List Pl,freshS β w 0 xs∧e=.returned ((SV.tup [nA 0,.c (.b (.v (.bool (a.B&&b.B))))]).den (extE β 0 xs))∧newHold w' (ofT a b) xs∧Below w.heap.size w w':=by
 cases a with
 | ok x hx=>cases b with
  | ok y hy=>exact spec_auto (obs:=[]) (evs:=[(sRatIn hx).e,(sRatIn hy).e,dNe x,dNe y]) (Ns:=[]) (m:=400) Tryz.func219 hmA (fun β=>by kernel_rfl) (by kernel_rfl) β w hh
  | no b' c s t h hs ht =>
   refine (spec_auto (args:=[.one (.a (fpC (.ok x hx)++fpC (.no b' c s t h hs ht)))]) (obs:=[]) (res:=SV.tup [.a [.b (.z 0 0),.b (.v (.pointer none))],.c (.b (.v (.bool false)))]) (news:=[ratT x]) (evs:=[(sRatIn hx).e,(sRatNo h).e,dNe x]) (Ns:=[]) (m:=400) Tryz.func219 hmA (fun β=>by kernel_rfl) (by kernel_rfl) β w hh).mono fun e w' ⟨xs,h1,he,h2,h3⟩=>?_
   match xs,h1,he,h2 with
   | [p],h1,he,h2=>exact ⟨[p,nilPl],fun x hx c hc=>by
     rcases List.mem_cons.1 hx with rfl | hx
     · exact h1 _ (by simp) c hc
     · obtain rfl:=List.mem_singleton.1 hx
       exact hc.elim,he,⟨an_of (pr_stable x) h2.1,fun _ h=>h.elim,trivial⟩,h3⟩
 | no b' c s t h hs ht=>cases b with
  | ok y hy =>
   refine (spec_auto (args:=[.one (.a (fpC (.no b' c s t h hs ht)++fpC (.ok y hy)))]) (obs:=[]) (res:=SV.tup [.a [.b (.v (.pointer none)),.b (.z 0 0)],.c (.b (.v (.bool false)))]) (news:=[ratT y]) (evs:=[(sRatNo h).e,(sRatIn hy).e]) (Ns:=[]) (m:=400) Tryz.func219 hmA (fun β=>by kernel_rfl) (by kernel_rfl) β w hh).mono fun e w' ⟨xs,h1,he,h2,h3⟩=>?_
   match xs,h1,he,h2 with
   | [p],h1,he,h2=>exact ⟨[nilPl,p],fun x hx c hc=>by
     rcases List.mem_cons.1 hx with rfl | hx
     · exact hc.elim
     · obtain rfl:=List.mem_singleton.1 hx
       exact h1 _ (by simp) c hc,he,⟨fun _ h=>h.elim,an_of (pr_stable y) h2.1,trivial⟩,h3⟩
  | no b'' c' s' t' h' hs' ht' =>
   refine (spec_auto (args:=[.one (.a (fpC (.no b' c s t h hs ht)++fpC (.no b'' c' s' t' h' hs' ht')))]) (obs:=[]) (res:=SV.tup [.a [.b (.v (.pointer none)),.b (.v (.pointer none))],.c (.b (.v (.bool false)))]) (news:=[]) (evs:=[(sRatNo h).e,(sRatNo h').e]) (Ns:=[]) (m:=400) Tryz.func219 hmA (fun β=>by kernel_rfl) (by kernel_rfl) β w hh).mono fun e w' ⟨xs,h1,he,h2,h3⟩=>?_
   match xs,h1,he,h2 with
   | [],h1,he,h2=>exact ⟨[nilPl,nilPl],fun x hx c hc=>by
     rcases List.mem_cons.1 hx with rfl | hx
     · exact hc.elim
     · obtain rfl:=List.mem_singleton.1 hx
       exact hc.elim,he,⟨fun _ h=>h.elim,fun _ h=>h.elim,trivial⟩,h3⟩
def sOf (a b:Fp):Spec Tryz.prog :=
 ⟨219,Tryz.call219,[.one (.a (fpC a++fpC b))],[],.tup [nA 0,.c (.b (.v (.bool (a.B&&b.B))))],ofT a b,sOf_ok a b,by cases a<;>cases b<;>kernel_rfl⟩
theorem told_ok {z:GQ} (hz:GSz KB z) (β:Env) (w:World) (hh:∀ (k:Nat) (t:Thing),(gM z)[k]?=some t→t.D w (β k)) :
  Calls Tryz.prog 258 (([nV 0]:List SV).map (SV.den β)).toArray w fun e w'=>∃ xs:List Pl,freshS β w 2 xs∧e=.returned ((SV.tup [.a (lsX (gaC z)),.c (.b (.v (.int .i64 (gaK z))))]).den (extE β 2 xs))∧newHold w' [] xs∧Below w.heap.size w w':=by
 by_cases h1:Fit z.re
 · by_cases h2:Fit z.im
   · rw [(ga_fit ⟨h1,h2⟩).1,(ga_fit ⟨h1,h2⟩).2]
     have e1:(ansK z.re != 0)=false:=by rw [(ansF_fit h1).2.2.2]; rfl
     have e2:(ansK z.im != 0)=false:=by rw [(ansF_fit h2).2.2.2]; rfl
     unfold gC
     rw [← (ansF_fit h1).1,← (ansF_fit h1).2.1,← (ansF_fit h1).2.2.1,← (ansF_fit h2).1,← (ansF_fit h2).2.1,← (ansF_fit h2).2.2.1]
     exact spec_auto (obs:=gM z) (evs:=[(sFrac hz.1).e,(sFrac hz.2).e,.eqv 21 (.bool (ansK z.re != 0)) (.bool false) (ansK_ne e1),.eqv 24 (.bool (ansK z.im != 0)) (.bool false) (ansK_ne e2)]) (Ns:=[]) (m:=400) Tryz.func258 hmA (fun β=>by kernel_rfl) (by kernel_rfl) β w hh
   · have hn:¬ FitG z:=fun h=>h2 h.2
     rw [(ga_not hn).1,(ga_not hn).2]
     have e1:(ansK z.re != 0)=false:=by rw [(ansF_fit h1).2.2.2]; rfl
     have e2:(ansK z.im != 0)=true:=by rw [show ansK z.im=4 from if_neg h2]; rfl
     exact spec_auto (obs:=gM z) (evs:=[(sFrac hz.1).e,(sFrac hz.2).e,.eqv 21 (.bool (ansK z.re != 0)) (.bool false) (ansK_ne e1),.eqv 24 (.bool (ansK z.im != 0)) (.bool true) (ansK_ne e2)]) (Ns:=[]) (m:=400) Tryz.func258 hmA (fun β=>by kernel_rfl) (by kernel_rfl) β w hh
 · have hn:¬ FitG z:=fun h=>h1 h.1
   rw [(ga_not hn).1,(ga_not hn).2]
   have e1:(ansK z.re != 0)=true:=by rw [show ansK z.re=4 from if_neg h1]; rfl
   exact spec_auto (obs:=gM z) (evs:=[(sFrac hz.1).e,(sFrac hz.2).e,.eqv 21 (.bool (ansK z.re != 0)) (.bool true) (ansK_ne e1)]) (Ns:=[]) (m:=400) Tryz.func258 hmA (fun β=>by kernel_rfl) (by kernel_rfl) β w hh
noncomputable def sTold {z:GQ} (hz:GSz KB z):Spec Tryz.prog :=
 ⟨258,Tryz.call258,[nV 0],gM z,.tup [.a (lsX (gaC z)),.c (.b (.v (.int .i64 (gaK z))))],[],told_ok hz,by kernel_rfl⟩
def rL (x:R4):List Lf:=[.b (.v (.bool x.b)),.b (.v (.string x.s)),.b (.v (.bool x.c)),.b (.v (.string x.t))]
structure Fr where
 r:R4
 a:Fp
 e:fpC a=rL r
def eqEv (t:TypeId) (xs ys:Array Value) (r:Bool) (hg:Tryz.prog.eqGuardType Tryz.prog.depth t=false) (h:∀ w,(Op.equalIn 10000 t (.agg xs) (.agg ys)).run Tryz.prog w=.ok r w):Ev Tryz.prog :=
 .dyn (fun o _ _=>match o.op with
  | .binOp .eql t' _ _ _=>Nat.beq t' t
  | .binOp .neq t' _ _ _=>Nat.beq t' t
  | _=>false) fun o _ _=>match o.op with
  | .binOp .eql _ a b u=>.gen (o.dst.getD 0) (.binOp .eql t a b u) [.agg xs,.agg ys] (.bool r) (fun ρ o w ho hx=>by
    simp only [Op.operands,List.map_cons,List.map_nil,List.cons.injEq] at hx
    exact exec_eql hg (h w) a b ρ o ho hx.1 hx.2.1)
  | .binOp .neq _ a b u=>.gen (o.dst.getD 0) (.binOp .neq t a b u) [.agg xs,.agg ys] (.bool (!r)) (fun ρ o w ho hx=>by
    simp only [Op.operands,List.map_cons,List.map_nil,List.cons.injEq] at hx
    exact exec_neq hg (h w) a b ρ o ho hx.1 hx.2.1)
  | _=>.eqv 0 undef undef rfl
def eqEvW (b b':Bool) (s s':ByteArray) (r:Bool) (h:weq b b' s s'=r):Ev Tryz.prog :=
 eqEv 23 #[.bool b,.string s] #[.bool b',.string s'] r (by kernel_rfl) (fun w=>by rw [← h]; exact eqW 9998 ..)
def eqEvG (x y x' y':R4) (r:Bool) (h:(x.eq x'&&(y.eq y'&&true))=r):Ev Tryz.prog :=
 eqEv 27 #[.bool x.b,.string x.s,.bool x.c,.string x.t,.bool y.b,.string y.s,.bool y.c,.string y.t] #[.bool x'.b,.string x'.s,.bool x'.c,.string x'.t,.bool y'.b,.string y'.s,.bool y'.c,.string y'.t] r (by kernel_rfl) (fun w=>by rw [← h]; exact eqG 9996 ..)
def ofE {z:GQ} (h:FitG z):Ev Tryz.prog:=(sOf (.ok z.re h.1) (.ok z.im h.2)).e
end Go.Proofs.YthkpghhoffihmaaGreatDoor.Y
end
section
namespace Go.Proofs.YthkpghhoffihmaaGreatDoor
open Go.Proofs.YthkpghhoffihmaaGreatDoor.Y
open Go Go.RowKit
set_option maxRecDepth 100000
def Fp.mayE:Fp→Ev Tryz.prog
 | .ok x h=>eMayF x h
 | .no b c s t h hs ht=>eMay b c s t hs ht false ⟨fun e=>Bool.noConfusion e,fun e=>absurd e h⟩
def gMayE (a b:Fp):List (Ev Tryz.prog):=match a with
 | .ok ..=>[a.mayE,b.mayE]
 | .no ..=>[a.mayE]
def sGMay (a b:Fp):Y.Spec Tryz.prog :=
 Y.Spec.auto Tryz.call96 [.one (.a (a.C++b.C))] [] (.one (.c (.b (.v (.bool (a.B&&b.B)))))) []
  (gMayE a b) [] 400 Tryz.func96 hmA (by cases a<;>cases b<;>kernel_rfl) (fun β=>by cases a<;>cases b<;>kernel_rfl)
abbrev svG (z:GQ):SV:=.one (.a (gC z))
def sR4Int (n m:Int) (hn : -9223372036854775808≤n∧n≤9223372036854775807:=by decide) (hm : -9223372036854775808≤m∧m≤9223372036854775807:=by decide):Y.Spec Tryz.prog :=
 Y.Spec.auto Tryz.call34 [.one (.c (.b (.v (.int .i64 n)))),.one (.c (.b (.v (.int .i64 m))))] [] (svG (gint n m)) [] [(sR3Int n hn).e,(sR3Int m hm).e] [] 400 Tryz.func34 hmA (by kernel_rfl) (fun β=>by kernel_rfl)
theorem sign_num (x:Rat) {b:Bool} (h:decide (x=0)=b):Value.bool (x.num.sign==0)=.bool b:=sign_lit h
def Fp.may3:Fp→Y.Spec Tryz.prog
 | .ok x h=>sR3May _ _ _ _ true (iff_true_of (fitF x h))
 | .no b c s t h hs ht=>sR3May b c s t false (iff_false_of h)
def may4E (a b:Fp):List (Ev Tryz.prog):=match a with
 | .ok ..=>[a.may3.e,b.may3.e]
 | .no ..=>[a.may3.e]
def sR4May (a b:Fp):Y.Spec Tryz.prog :=
 Y.Spec.auto Tryz.call30 [.one (.a (a.C++b.C))] [] (.one (.c (.b (.v (.bool (a.B&&b.B)))))) [] (may4E a b) [] 400 Tryz.func30 hmA (by cases a<;>cases b<;>kernel_rfl) (fun β=>by cases a<;>cases b<;>kernel_rfl)
def Fp.raw:Fp→R4
 | .ok x _=>⟨decide (x.num<0),mag x.num.natAbs,false,mag x.den⟩
 | .no b c s t _ _ _=>⟨b,s,c,t⟩
def Pp.rI:Pp→Bool
 | .fin ..=>false
 | _=>true
def Pp.rX:Pp→R4
 | .inf=>r40
 | .fin a _=>a.raw
 | .odd x _ _=>x
def Pp.rY:Pp→R4
 | .inf=>r40
 | .fin _ b=>b.raw
 | .odd _ y _=>y
def Y.Spec.as {P:Program} (S:Y.Spec P) (args:List SV) (res:SV) (ha:S.args=args) (hr:S.res=res):Y.Spec P :=
 ⟨S.f,S.en,args,S.obs,res,S.news,fun β w hh=>by subst ha; subst hr; exact S.ok β w hh,by subst ha; subst hr; exact S.closed⟩
def fR (x:Rat):R4:=⟨decide (x.num<0),mag x.num.natAbs,false,mag x.den⟩
def Pt.i:Pt→Bool
 | .inf=>true
 | .fin _=>false
def Pt.x:Pt→R4
 | .inf=>r40
 | .fin z=>fR z.re
def Pt.y:Pt→R4
 | .inf=>r40
 | .fin z=>fR z.im
def FitP:Pt→Prop
 | .inf=>True
 | .fin z=>FitG z
structure Rw where
 i:Bool
 x:R4
 y:R4
def Pt.w (p:Pt):Rw:=⟨p.i,p.x,p.y⟩
def Pp.w (p:Pp):Rw:=⟨p.rI,p.rX,p.rY⟩
theorem fp_of (x:R4) (h1:x.s.size≤maxLen) (h2:x.t.size≤maxLen):∃ a:Fp,a.raw=x:=by
 obtain ⟨b,s,c,t⟩:=x
 rcases fp_all b c s t with ⟨q,h,rfl,rfl,rfl,rfl⟩ | h
 · exact ⟨.ok q h,rfl⟩
 · exact ⟨.no b c s t h h1 h2,rfl⟩
theorem gz_true {z:GQ}:gzero z=true↔z=g0:=by
 rw [gzero_iff]
 exact ⟨fun h=>GQ.ext2 h.1 h.2,fun h=>by rw [h]; exact ⟨rfl,rfl⟩⟩
theorem gz_false {z:GQ}:gzero z=false↔z≠g0:=by
 cases h:gzero z with
 | true=>exact ⟨fun e=>Bool.noConfusion e,fun e=>absurd (gz_true.1 h) e⟩
 | false=>exact ⟨fun _ e=>by rw [gz_true.2 e] at h; exact Bool.noConfusion h,fun _=>rfl⟩
def Reg (m:MQ):Prop:=mdet m≠g0
theorem Reg.by_ {m:MQ} (h:Reg m) {b:Bool} (hb:gzero m.c=b):(bif b then m.d else m.c)≠g0:=by
 cases b
 · exact gz_false.1 hb
 · intro e
   refine h ?_
   have hc:=gz_true.1 hb
   unfold mdet
   rw [hc,show m.d=g0 from e]
   refine GQ.ext2 ?_ ?_<;>(simp only [gsub,gmul,g0]; grind)
theorem Reg.by0 {m:MQ} (h:Reg m) {b:Bool} (hb:gzero m.c=b):gzero (bif b then m.d else m.c)=false:=gz_false.2 (h.by_ hb)
structure BSpec (P:Program) where
 f:FuncId
 en:Enters P f
 args:List SV
 cs:List Lf
 t:TypeId
 r:Value
 ok:∀ β w,(Ob.box cs t).holds β w (β 0)→Calls P f (args.map (SV.den β)).toArray w fun e w'=>e=.returned r∧Below w.heap.size w w'
 cl:(cs.all (Lf.of fun _=>false)&&args.all (SV.of fun k=>Nat.beq k 0))=true
 hr:∀ β,(tag r).den β=r
def bkOf:List SV→Nat
 | []=>0
 | .one (.c (.b (.s k _ _ _)))::_=>k
 | _::r=>bkOf r
theorem cells_closed {β β':Env} {cs:List Lf} (h:cs.all (Lf.of fun _=>false)=true):cs.map (Lf.den β)=cs.map (Lf.den β') :=
 List.map_congr_left fun x hx=>Lf.den_congr (q:=fun _=>false) (fun k hk=>by cases hk) x (List.all_eq_true.1 h x hx)
def BSpec.e {P:Program} (S:BSpec P):Ev P:=.dyn (fun o _ _=>isCallB o) fun _ xs ob=>lit (bkOf xs) fun i =>
 .call S.f S.en (fun β=>(S.args.map (SV.den fun _=>β i)).toArray) [(i,.box S.cs S.t)] 0 (tag S.r) [] (fun β w h=>of_pure0 (by
  have hc:=S.cl
  rw [Bool.and_eq_true] at hc
  refine S.ok (fun _=>β i) w ?_
  have h1:(β i).one∧w.heap[(β i).b]?=some (.cells (S.cs.map (Lf.den β)).toArray S.t (0,0)):=h _ (List.mem_singleton.2 rfl)
  show (β i).one∧w.heap[(β i).b]?=some (.cells (S.cs.map (Lf.den fun _=>β i)).toArray S.t (0,0))
  rw [cells_closed (β':=β) hc.1]
  exact h1) S.hr)
theorem bspec_ok {P:Program} {f:FuncId} {fn:Func} {args:List SV} {cs:List Lf} {t:TypeId} {r:Value} (evs:List (Ev P)) (Ns:List (Nat × Nat)) (m:Nat) (hf:P.funcs[f]?=some fn) (hm:P.follows .mixedOrders=true)
  (h:∀ β,(allS P fn args [.box cs t] evs Ns m (tag r) [] β).map Prod.fst=(allS P fn args [.box cs t] evs Ns m (tag r) [] β).map Prod.snd)
  (hB:(args.all (SV.of fun k=>Nat.blt k 1)&&[Ob.box cs t].all fun x=>x.of (fun k=>Nat.blt k 1)&&x.own)=true) (hr:∀ β,(tag r).den β=r) (β:Env) (w:World) (hh:(Ob.box cs t).holds β w (β 0)) :
  Calls P f (args.map (SV.den β)).toArray w fun e w'=>e=.returned r∧Below w.heap.size w w':=by
 rw [Bool.and_eq_true] at hB
 refine (sx (P:=P) args [.box cs t] evs Ns m (tag r) [] hf hm (fun β=>ok_of_maps (h β)) hB.1 hB.2 β w (fun k o ho=>?_)).mono ?_
 · cases k with
   | zero=>simp only [List.getElem?_cons_zero] at ho; obtain rfl:=Option.some.inj ho; exact hh
   | succ k=>simp at ho
 · rintro e w' ⟨β',q,obj,e1,rfl,e2,e4,e5,g⟩
   exact ⟨by rw [hr],g.bel⟩
def big (k:Nat) (s:ByteArray):Bool:=decide ((k:Int)<(s.size:Int))
def smB (k:Nat) (x y:R4):Bool:=!(big k x.s||(big k x.t||(big k y.s||big k y.t)))
theorem big_lit {k:Nat} {s:ByteArray} {r:Bool} (h:big k s=r):Value.bool (decide ((k:Int)<(s.size:Int)))=.bool r:=by rw [← h]; rfl
def evBig (k:Nat) (s:ByteArray) (d:Nat) (r:Bool) (h:big k s=r):Ev Tryz.prog:=.eqv d (.bool (decide ((k:Int)<(s.size:Int)))) (.bool r) (big_lit h)
theorem small4_ok (k:Nat) (x y:R4) {b:Bool} (hb:smB k x y=b) (β:Env) (w:World) (hh:(Ob.box (x.L++y.L) 27).holds β w (β 0)) :
  Calls Tryz.prog 28 (([.one (.c (.b (.v (.int .i64 (k:Int))))),.one (.c (.b (.s 0 0 1 1)))]:List SV).map (SV.den β)).toArray w fun e w'=>e=.returned (.bool b)∧Below w.heap.size w w':=by
 unfold smB at hb
 cases h1:big k x.s with
 | true =>
  obtain rfl:b=false:=by rw [← hb,h1]; rfl
  exact bspec_ok [evBig k x.s 23 true h1] [] 800 Tryz.func28 hmA (fun β=>by kernel_rfl) (by kernel_rfl) (fun β=>rfl) β w hh
 | false=>cases h2:big k x.t with
 | true =>
  obtain rfl:b=false:=by rw [← hb,h1,h2]; rfl
  exact bspec_ok [evBig k x.s 23 false h1,evBig k x.t 31 true h2] [] 800 Tryz.func28 hmA (fun β=>by kernel_rfl) (by kernel_rfl) (fun β=>rfl) β w hh
 | false=>cases h3:big k y.s with
 | true =>
  obtain rfl:b=false:=by rw [← hb,h1,h2,h3]; rfl
  exact bspec_ok [evBig k x.s 23 false h1,evBig k x.t 31 false h2,evBig k y.s 40 true h3] [] 800 Tryz.func28 hmA (fun β=>by kernel_rfl) (by kernel_rfl) (fun β=>rfl) β w hh
 | false=>cases h4:big k y.t with
 | true =>
  obtain rfl:b=false:=by rw [← hb,h1,h2,h3,h4]; rfl
  exact bspec_ok [evBig k x.s 23 false h1,evBig k x.t 31 false h2,evBig k y.s 40 false h3,evBig k y.t 49 true h4] [] 800 Tryz.func28 hmA (fun β=>by kernel_rfl) (by kernel_rfl) (fun β=>rfl) β w hh
 | false =>
  obtain rfl:b=true:=by rw [← hb,h1,h2,h3,h4]; rfl
  exact bspec_ok [evBig k x.s 23 false h1,evBig k x.t 31 false h2,evBig k y.s 40 false h3,evBig k y.t 49 false h4] [] 800 Tryz.func28 hmA (fun β=>by kernel_rfl) (by kernel_rfl) (fun β=>rfl) β w hh
def sR4Small (k:Nat) (x y:R4) {b:Bool} (hb:smB k x y=b):BSpec Tryz.prog :=
 ⟨28,Tryz.call28,[.one (.c (.b (.v (.int .i64 (k:Int))))),.one (.c (.b (.s 0 0 1 1)))],x.L++y.L,27,.bool b,small4_ok k x y hb,by kernel_rfl,fun _=>rfl⟩
theorem Reg.b0 {m:MQ} (h:Reg m):gzero (bif gzero m.c then m.d else m.c)=false:=h.by0 rfl
end Go.Proofs.YthkpghhoffihmaaGreatDoor
end
section
namespace Go.Proofs.YthkpghhoffihmaaGreatDoor.Y
open Go Go.RowKit
set_option maxRecDepth 100000
theorem num_some:(Tryz.prog.info? 165).isSome=true:=by kernel_rfl
noncomputable def appN:AppT Tryz.prog :=
 ⟨265,165,(Tryz.prog.info? 165).get num_some,.agg #[.pointer none,.pointer none],2,16,Tryz.underlying265,(Option.some_get num_some).symm,by kernel_rfl,by kernel_rfl,by kernel_rfl,rfl,by decide,by decide⟩
structure Gp where
 a:Fr
 b:Fr
def Gp.C (g:Gp):SV:=.one (.a (rL g.a.r++rL g.b.r))
def Gp.B (g:Gp):Bool:=g.a.a.B&&g.b.a.B
abbrev tB' (t:Bool):SV:=.one (.c (.b (.v (.bool t))))
abbrev nI' (k:Int):SC:=.c (.b (.v (.int .i64 k)))
abbrev gS (z:GQ):SV:=.one (.a (lsX (gC z)))
end Go.Proofs.YthkpghhoffihmaaGreatDoor.Y
end
section
namespace Go.Proofs.YthkpghhoffihmaaGreatDoor
open Go.Proofs.YthkpghhoffihmaaGreatDoor.Y
open Go Go.RowKit
set_option maxRecDepth 100000
abbrev svI (n:Int):SC:=.c (.b (.v (.int .i64 n)))
theorem sz_lit1 {n:Int} (h:n.natAbs<256):Fit (Rat.divInt n 1):=(Sz.small h).fit (by decide)
theorem fit_int {n m:Int} (h:n.natAbs<256) (k:m.natAbs<256):FitG (gint n m):=⟨sz_lit1 h,sz_lit1 k⟩
def geq (x y x' y':R4):Bool:=x.eq x'&&(y.eq y'&&true)
theorem geq_self (x y:R4):geq x y x y=true:=by
 unfold geq
 rw [R4.eq_iff.2 rfl,R4.eq_iff.2 rfl]; rfl
theorem fit_small {z:GQ} (h1:z.re.num.natAbs<256) (h2:z.re.den<256) (h3:z.im.num.natAbs<256) (h4:z.im.den<256):FitP (.fin z) :=
 ⟨Sz.fit (k:=1) ⟨sz_small h1,sz_small (n:=(z.re.den:Int)) (by simpa using h2)⟩ (by decide),Sz.fit (k:=1) ⟨sz_small h3,sz_small (n:=(z.im.den:Int)) (by simpa using h4)⟩ (by decide)⟩
end Go.Proofs.YthkpghhoffihmaaGreatDoor
end
section
namespace Go.Proofs.YthkpghhoffihmaaGreatDoor.Y
open Go Go.RowKit
set_option maxRecDepth 100000
theorem rSetInt64_any {w:World} {b o:Nat} {n:Int} (hz:Slot w b o 4) (hr : -9223372036854775808≤n∧n≤9223372036854775807) :
  Calls Tryz.prog 240 #[.pointer (some ⟨b,o,none⟩),.int .i64 n] w fun e w'=>e=.returned (.pointer (some ⟨b,o,none⟩))∧RatAt w' b o (n:Rat)∧Touch w w' b o 4:=by
 have HZ:=Lib.hid hz
 have HR:=Lib.hid hr
 clear hz hr
 go_enter Tryz.func240,Tryz.ntmps240
 go_wp2_with fail
 refine (NewInt_any HR.out).mono ?_
 rintro e w1 ⟨c,rfl,hc,h1,hb1⟩
 have hlt:=HZ.out.lt
 have HB1:=Lib.hid hb1
 have H1:=Lib.hid h1
 have HC:Hid (c≠b):=show c≠b by omega
 clear h1 hb1 hc hlt
 go_wp2_with fail
 refine (SetInt_any (HZ.out.on HB1.out) H1.out HC.out).mono ?_
 rintro e w2 ⟨rfl,h2,ht⟩
 have H2:=Lib.hid h2
 have HT:=Lib.hid ((Touch.of_below HB1.out b o 4).trans ht)
 clear h2 ht
 go_wp2
 go_ret
 exact ⟨rfl,H2.out,HT.out⟩
theorem int_divInt (n:Int):((n:Int):Rat)=Rat.divInt n 1:=Rat.ext (divInt_one n).1.symm (divInt_one n).2.symm
def eSetI (i m:Nat) (n:Int) (hr : -9223372036854775808≤n∧n≤9223372036854775807):Ev Tryz.prog:=.fill 240 Tryz.call240 (fun β=>#[.pointer (some ⟨(β i).b,0,none⟩),.int .i64 n]) [] i 4 m (ratT (Rat.divInt n 1))
 (fun β w h ho hs=>by
  rw [← int_divInt]
  exact fillP ho (rSetInt64_any hs hr))
def fSetI (n:Int) (hr : -9223372036854775808≤n∧n≤9223372036854775807):Ev Tryz.prog:=dyn1 fun i m=>eSetI i m n hr
def sTldF {x:Rat} (hx:Sz KB x):Spec Tryz.prog :=
 ⟨234,Tryz.call234,[rV 0],[ratT x],.one (.a (fC x)),[],fun β w hh=>by
  obtain ⟨b,hb,k⟩:PR x w (β 0):=hh 0 (ratT x) rfl
  show Calls _ _ #[.pointer ((β 0).v 0)] w _
  rw [hb.1]
  refine (told_any k (hx.okR2 (by decide))).mono fun e w' ⟨p,s,t,he,hp,hs,ht,hB⟩=>?_
  obtain rfl:p=_:=hp.out
  obtain rfl:s=_:=hs.out
  obtain rfl:t=_:=ht.out
  exact ⟨[],(fun _ h=>by cases h),he,trivial,hB⟩,by kernel_rfl⟩
theorem fit10:FitG (gint 1 0):=fit_int (by decide) (by decide)
theorem fit00:FitG (gint 0 0):=fit_int (by decide) (by decide)
def frX (x:Rat) (h:Fit x):Fr:=⟨fR x,.ok x h,rfl⟩
def gpX (z:GQ) (h:FitG z):Gp:=⟨frX z.re h.1,frX z.im h.2⟩
theorem rL_inj {x y:R4} (h:rL x=rL y):x=y:=by
 obtain ⟨b,s,c,t⟩:=x
 obtain ⟨b',s',c',t'⟩:=y
 simp only [rL,List.cons.injEq,Lf.b.injEq,Lf0.v.injEq,Value.bool.injEq,Value.string.injEq,and_true] at h
 obtain ⟨rfl,rfl,rfl,rfl⟩:=h
 rfl
inductive Gn where
 | ok (z:GQ) (h:FitG z)
 | no (g:Gp) (h:g.B=false)
def Gn.gp:Gn→Gp
 | .ok z h=>gpX z h
 | .no g _=>g
def Gn.x (g:Gn):R4:=g.gp.a.r
def Gn.y (g:Gn):R4:=g.gp.b.r
def Gn.B:Gn→Bool
 | .ok ..=>true
 | .no ..=>false
theorem Gn.gpB:∀ g:Gn,g.gp.B=g.B
 | .ok ..=>rfl
 | .no _ h=>h
def Gn.z:Gn→GQ
 | .ok z _=>z
 | .no ..=>g0
theorem fr_of (r:R4) (h:r.s.size≤maxLen∧r.t.size≤maxLen):∃ a:Fr,a.r=r:=by
 obtain ⟨a,ha⟩:=fp_of r h.1 h.2
 exact ⟨⟨r,a,by rw [← ha]; cases a<;>rfl⟩,rfl⟩
theorem gn_of (x y:R4) (hx:x.s.size≤maxLen∧x.t.size≤maxLen) (hy:y.s.size≤maxLen∧y.t.size≤maxLen):∃ g:Gn,g.x=x∧g.y=y:=by
 obtain ⟨a,rfl⟩:=fr_of x hx
 obtain ⟨b,rfl⟩:=fr_of y hy
 cases h:(Gp.mk a b).B with
 | false=>exact ⟨.no ⟨a,b⟩ h,rfl,rfl⟩
 | true =>
  have h':=Bool.and_eq_true_iff.1 h
  obtain ⟨ra,fa,ea⟩:=a
  obtain ⟨rb,fb,eb⟩:=b
  cases fa with
  | no=>cases h'.1
  | ok x hx2=>cases fb with
   | no=>cases h'.2
   | ok y hy2 =>
    refine ⟨.ok ⟨x,y⟩ ⟨hx2,hy2⟩,rL_inj ?_,rL_inj ?_⟩
    · exact ea
    · exact eb
inductive Cd where
 | v (x:Value)
 | r (x:Rat)
 | t (x:Rat)
def cd1 (g:Pl) (i:Nat):Cd→Value
 | .v x=>x
 | .r _=>.pointer (g.v i)
 | .t _=>.pointer (g.v i)
def cdV (g:Pl):Nat→List Cd→List Value
 | _,[]=>[]
 | i,c::l=>cd1 g i c::cdV g (i+1) l
def cdP (w:World) (g:Pl) (i:Nat):Cd→Prop
 | .v _=>True
 | .r x=>(g.v i=none∧x=0)∨∃ b,g.v i=some ⟨b,0,none⟩∧g.F b∧RatAt w b 0 x
 | .t x=>∃ b,g.v i=some ⟨b,0,none⟩∧g.F b∧RatAt w b 0 x
def cdOk (w:World) (g:Pl):Nat→List Cd→Prop
 | _,[]=>True
 | i,c::l=>cdP w g i c∧cdOk w g (i+1) l
theorem cdV_at {g:Pl}:∀ {l:List Cd} {i j:Nat} {c:Cd},l[j]?=some c→(cdV g i l)[j]?=some (cd1 g (i+j) c)
 | _::_,i,0,c,h=>by
  simp only [List.getElem?_cons_zero] at h
  obtain rfl:=Option.some.inj h
  rfl
 | _::l,i,j+1,c,h=>by
  have:=cdV_at (g:=g) (l:=l) (i:=i+1) (j:=j) (c:=c) (by simpa using h)
  rw [show i+(j+1)=i+1+j by omega]
  simpa [cdV] using this
theorem cdOk_at {w:World} {g:Pl}:∀ {l:List Cd} {i j:Nat} {c:Cd},cdOk w g i l→l[j]?=some c→cdP w g (i+j) c
 | _::_,i,0,c,h,hl=>by
  simp only [List.getElem?_cons_zero] at hl
  obtain rfl:=Option.some.inj hl
  exact h.1
 | _::l,i,j+1,c,h,hl=>by
  rw [show i+(j+1)=i+1+j by omega]
  exact cdOk_at (l:=l) h.2 (by simpa using hl)
theorem cdP_below {w w':World} {g:Pl} {i:Nat} (hb:Below w.heap.size w w'):∀ c:Cd,cdP w g i c→cdP w' g i c
 | .v _,_=>trivial
 | .r x,h=>h.imp id fun ⟨b,h1,h2,h3⟩=>⟨b,h1,h2,h3.on hb⟩
 | .t x,⟨b,h1,h2,h3⟩=>⟨b,h1,h2,h3.on hb⟩
theorem cdP_touch {w w':World} {g:Pl} {i b o n:Nat} (hs:NW w b) (ht:Touch w w' b o n) (hne:¬ g.F b):∀ c:Cd,cdP w g i c→cdP w' g i c
 | .v _,_=>trivial
 | .r x,h=>h.imp id fun ⟨d,h1,h2,h3⟩=>⟨d,h1,h2,RatAt.touchN h3 hs ht fun e=>hne (e▸h2)⟩
 | .t x,⟨d,h1,h2,h3⟩=>⟨d,h1,h2,RatAt.touchN h3 hs ht fun e=>hne (e▸h2)⟩
theorem cdOk_map {w w':World} {g:Pl} (h:∀ i c,cdP w g i c→cdP w' g i c):∀ {l:List Cd} {i:Nat},cdOk w g i l→cdOk w' g i l
 | [],_,_=>trivial
 | c::l,i,k=>⟨h i c k.1,cdOk_map h k.2⟩
def RW (e:TypeId) (cs:List Cd) (w:World) (g:Pl):Prop :=
 (g.F g.b∧∃ cur:Array Value,w.heap[g.b]?=some (.cells cur e (0,0))∧cur.toList.take cs.length=cdV g 0 cs)∧(cdOk w g 0 cs∧g.v cs.length=some ⟨g.b,0,none⟩)∧∀ c,g.F c→c<w.heap.size
theorem rw_stable (e:TypeId) (cs:List Cd):Stable (RW e cs) :=
 ⟨fun w g h=>h.2.2,
  fun w w' g ⟨⟨hf,cur,h1,h2⟩,⟨h3,h5⟩,h4⟩ hb=>⟨⟨hf,cur,by rw [hb.block g.b (heap_lt h1)]; exact h1,h2⟩,⟨cdOk_map (fun i c=>cdP_below hb c) h3,h5⟩,fun c hc=>Nat.lt_of_lt_of_le (h4 c hc) hb.size⟩,
  fun w w' g b o n m ⟨⟨hf,cur,h1,h2⟩,⟨h3,h5⟩,h4⟩ hs ht hne=>⟨⟨hf,cur,by rw [ht.block g.b (heap_lt h1) fun e=>hne (e▸hf)]; exact h1,h2⟩,⟨cdOk_map (fun i c=>cdP_touch hs ht hne c) h3,h5⟩,
   fun c hc=>Nat.lt_of_lt_of_le (h4 c hc) (ht.below (B:=0) (Nat.zero_le _) (Nat.zero_le _)).size⟩⟩
def rowT (e:TypeId) (cs:List Cd):Thing:=thing (RW e cs) (rw_stable e cs)
def cellPl (g:Pl) (i:Nat):Pl:=⟨(match g.v i with | some a=>a.block | none=>0),fun _=>g.v i,fun _=>0,fun c=>∃ a,g.v i=some a∧c=a.block,fun _=>undef⟩
theorem cellPl_or {w:World} {g:Pl} {i:Nat} {x:Rat} (h:cdP w g i (.r x)):OR0 x w (cellPl g i):=by
 rcases h with ⟨h1,h2⟩ | ⟨b,h1,h2,h3⟩
 · exact .inl ⟨h1,(fun c hc=>by obtain ⟨a,ha,_⟩:=hc; rw [h1] at ha; cases ha),h2⟩
 · exact .inr ⟨b,⟨h1,fun c=>⟨fun ⟨a,ha,hc⟩=>by rw [h1] at ha; cases ha; exact hc,fun hc=>⟨_,h1,hc⟩⟩⟩,h3⟩
theorem cellPl_F {w:World} {g:Pl} {i:Nat} {x:Rat} (h:cdP w g i (.r x)) {c:Nat} (hc:(cellPl g i).F c):g.F c:=by
 obtain ⟨a,ha,rfl⟩:=hc
 rcases h with ⟨h1,h2⟩ | ⟨b,h1,h2,h3⟩
 · rw [h1] at ha; cases ha
 · rw [h1] at ha; cases ha; exact h2
theorem rw_cell {e:TypeId} {cs:List Cd} {w:World} {g:Pl} (h:RW e cs w g) {j:Nat} {c:Cd} (hj:cs[j]?=some c):w.cell? ⟨g.b,j,none⟩=some (cd1 g j c):=by
 obtain ⟨⟨_,cur,h1,h2⟩,_⟩:=h
 have h3:=cdV_at (g:=g) (i:=0) hj
 rw [← h2,Nat.zero_add] at h3
 rw [List.getElem?_take] at h3
 split at h3
 · rw [Array.getElem?_toList] at h3
   exact cell_lay h1 h3
 · cases h3
theorem den_two (β:Env) (n:Nat) (p q:Pl):(SV.one (.a [.b (.z n 0),.b (.z (n+1) 0)])).den (extE β n [p,q])=.agg #[.pointer (p.v 0),.pointer (q.v 0)]:=by
 have h1:=extE_in (β:=β) (n:=n) (i:=0) (xs:=[p,q]) rfl
 have h2:=extE_in (β:=β) (n:=n) (i:=1) (xs:=[p,q]) rfl
 rw [Nat.add_zero] at h1
 simp [SV.den,SC.den,Lf.den,Lf0.den,h1,h2]
def rdNum (d t:Nat) (e:TypeId) (cs:List Cd) (o:Nat) (x y:Rat) (hx:cs[o]?=some (.r x)) (hy:cs[o+1]?=some (.r y)) (k n:Nat):Ev Tryz.prog :=
 .rd d (.load 165 (.tmp t)) (fun β=>[.pointer (some ⟨(β k).b,o,none⟩)]) [(k,(rowT e cs).ob)] n (.one (.a [.b (.z n 0),.b (.z (n+1) 0)])) [ratM x,ratM y] (fun β w h ρ op ho hx'=>by
  have h1:RW e cs w (β k):=h (k,(rowT e cs).ob) (by simp)
  have h2:ρ (.tmp t)=.pointer (some ⟨(β k).b,o,none⟩):=by simpa [Op.operands] using hx'
  have p1:=cdOk_at h1.2.1.1 hx
  have p2:=cdOk_at h1.2.1.1 hy
  rw [Nat.zero_add] at p1 p2
  refine ⟨[cellPl (β k) o,cellPl (β k) (o+1)],w,fun g hg c hc=>.inr ⟨(k,(rowT e cs).ob),by simp,rfl,?_⟩,?_,⟨cellPl_or p1,cellPl_or p2,trivial⟩,Below.refl _ _⟩
  · rcases List.mem_cons.1 hg with rfl | hg
    · exact cellPl_F p1 hc
    · obtain rfl:=List.mem_singleton.1 hg
      exact cellPl_F p2 hc
  · have hr:w.rangeAt (β k).b o [.pointer ((β k).v o),.pointer ((β k).v (o+1))]:=fun j v hv=>by
     match j,hv with
     | 0,hv=>simp only [List.getElem?_cons_zero] at hv; obtain rfl:=Option.some.inj hv; exact rw_cell h1 hx
     | 1,hv=>simp only [List.getElem?_cons_succ,List.getElem?_cons_zero] at hv; obtain rfl:=Option.some.inj hv; exact rw_cell h1 hy
     | j+2,hv=>simp at hv
    have hl:=run_loadAt_mid (P:=Tryz.prog) w (β k).b o 165 _ _ hr Tryz.underlying165 (by kernel_rfl) (by kernel_rfl)
    rw [den_two]
    unfold execOp
    rw [ho]
    simp only [h2]
    simp [hl,Result.andThen]
    exact ⟨rfl,rfl⟩)
def adOf:SV→Nat × Nat
 | .one (.c (.b (.p k o)))=>(k,o)
 | _=>(0,0)
def isAd:SV→Bool
 | .one (.c (.b (.p _ _)))=>true
 | _=>false
def dNum (e:TypeId) (cs:List Cd):Ev Tryz.prog:=.dyn (fun o xs ob=>match o.op with
 | .load T (.tmp _)=>Nat.beq T 165&&isAd (xs.getD 0 undefS)&&(match ob[(adOf (xs.getD 0 undefS)).1]? with | some (.th _)=>true | _=>false)
 | _=>false) fun o xs ob=>match o.op with
 | .load _ (.tmp t)=>lit (adOf (xs.getD 0 undefS)).1 fun k=>lit (adOf (xs.getD 0 undefS)).2 fun off=>lit ob.length fun n=>match hx:cs[off]?,hy:cs[off+1]? with
  | some (.r x),some (.r y)=>rdNum (o.dst.getD 0) t e cs off x y hx hy k n
  | _,_=>.eqv 0 undef undef rfl
 | _=>.eqv 0 undef undef rfl
def rdIdx (d t:Nat) (e:TypeId) (cs:List Cd) (ix:Operand) (n j:Nat) (hj:Nat.blt j n=true) (k:Nat):Ev Tryz.prog :=
 .rd d (.indexAddr 265 (.tmp t) ix) (fun β=>[.slice ((β k).v cs.length) n ((β k).c cs.length),.int .i64 (j:Int)]) [(k,(rowT e cs).ob)] 0 (.one (.c (.b (.p k (j*2))))) [] (fun β w h ρ op ho hx'=>by
  have h1:RW e cs w (β k):=h (k,(rowT e cs).ob) (by simp)
  have h2:ρ (.tmp t)=.slice (some ⟨(β k).b,0,none⟩) n ((β k).c cs.length)∧ρ ix=.int .i64 (j:Int):=by
   rw [h1.2.1.2] at hx'
   simpa [Op.operands] using hx'
  rw [Nat.blt_eq] at hj
  refine ⟨[],w,(fun _ h=>by cases h),?_,trivial,Below.refl _ _⟩
  rw [extE_nil]
  unfold execOp
  rw [ho]
  simp only [h2.1,h2.2]
  have hi:=run_indexAt_slice (P:=Tryz.prog) w 265 ⟨(β k).b,0,none⟩ n ((β k).c cs.length) .i64 (j:Int) (by kernel_rfl)
  have hsz:(sizeOf (Tryz.prog.elem 265)).run Tryz.prog w=.ok 2 w:=by kernel_rfl
  rw [if_pos ⟨by omega,by omega⟩,hsz,Result.andThen_ok,Int.toNat_natCast] at hi
  have ha:(⟨(β k).b,0,none⟩:Addr).add (j*2)=⟨(β k).b,j*2,none⟩:=by
   simp [Addr.add]
   exact fun h=>h.symm
  rw [ha] at hi
  simp only [Sem.run_bind,hi,Result.andThen_ok]
  rfl)
def yOf:SV→Nat × Nat
 | .one (.c (.b (.y k _ n)))=>(k,n)
 | _=>(0,0)
def isY:SV→Bool
 | .one (.c (.b (.y _ _ _)))=>true
 | _=>false
def intS:SV→Nat
 | .one (.c (.b (.v (.int _ i))))=>i.toNat
 | _=>0
def dIdx (e:TypeId) (cs:List Cd):Ev Tryz.prog:=.dyn (fun o xs ob=>match o.op with
 | .indexAddr _ (.tmp _) _=>isY (xs.getD 0 undefS)
 | _=>false) fun o xs ob=>match o.op with
 | .indexAddr _ (.tmp t) ix=>lit (yOf (xs.getD 0 undefS)).1 fun k=>lit (yOf (xs.getD 0 undefS)).2 fun n=>lit (intS (xs.getD 1 undefS)) fun j=>if h:Nat.blt j n=true then rdIdx (o.dst.getD 0) t e cs ix n j h k else .eqv 0 undef undef rfl
 | _=>.eqv 0 undef undef rfl
structure CSpec (P:Program) where
 f:FuncId
 en:Enters P f
 args:List SV
 cs:List Lf
 t:TypeId
 res:SV
 news:List Thing
 ok:∀ β w,(Ob.box cs t).holds β w (β 0)→Calls P f (args.map (SV.den β)).toArray w fun e w'=>∃ xs:List Pl,(∀ x∈xs,∀ c,x.F c→w.heap.size≤c)∧e=.returned (res.den (extE β 1 xs))∧newHold w' news xs∧Below w.heap.size w w'
 cl:(cs.all (Lf.of fun _=>false)&&args.all (SV.of fun k=>Nat.beq k 0)&&res.of fun k=>Nat.ble 1 k&&Nat.blt k (1+news.length))=true
def bkOfY:List SV→Nat
 | []=>0
 | .one (.c (.b (.s k _ _ _)))::_=>k
 | _::r=>bkOfY r
def CSpec.e {P:Program} (S:CSpec P):Ev P:=.dyn (fun o _ _=>isCallB o) fun _ xs ob=>lit (bkOfY xs) fun i=>lit ob.length fun n =>
 .call S.f S.en (fun β=>(S.args.map (SV.den fun _=>β i)).toArray) [(i,.box S.cs S.t)] n (S.res.ren fun k=>n+(k-1)) S.news (fun β w h=>by
  have hc:=S.cl
  simp only [Bool.and_eq_true] at hc
  have h1:(β i).one∧w.heap[(β i).b]?=some (.cells (S.cs.map (Lf.den β)).toArray S.t (0,0)):=h _ (List.mem_singleton.2 rfl)
  refine (S.ok (fun _=>β i) w ?_).mono fun e w' ⟨xs,k1,k2,k3,k4⟩=>⟨xs,fun x hx c hc=>.inl (k1 x hx c hc),?_,k3,k4⟩
  · show (β i).one∧w.heap[(β i).b]?=some (.cells (S.cs.map (Lf.den fun _=>β i)).toArray S.t (0,0))
    rw [show S.cs.map (Lf.den fun _=>β i)=S.cs.map (Lf.den β) from List.map_congr_left fun x hx=>Lf.den_congr (q:=fun _=>false) (fun k hk=>by cases hk) x (List.all_eq_true.1 hc.1.1 x hx)]
    exact h1
  · rw [k2,SV.den_ren]
    congr 1
    refine SV.den_congr (fun k hk=>?_) _ hc.2
    have hlen:=(newHold_get k3).1
    rw [Bool.and_eq_true,Nat.ble_eq,Nat.blt_eq] at hk
    have h5:k-1<xs.length:=by omega
    rw [extE_in (List.getElem?_eq_getElem h5)]
    have:=extE_in (β:=fun _=>β i) (n:=1) (List.getElem?_eq_getElem h5)
    rw [show 1+(k-1)=k by omega] at this
    exact this)
def Ob.ren (ρ:Nat→Nat):Ob→Ob
 | .box cs t=>.box (cs.map (Lf.ren ρ)) t
 | x=>x
def ptrB:Option Lf→Bool
 | some (.b (.z _ _))=>true
 | some (.b (.p _ _))=>true
 | some (.b (.v (.string _)))=>true
 | _=>false
def Ob.plainB:Ob→Bool
 | .box cs _=>Nat.blt cs.length 4||ptrB cs[1]?
 | .th _=>true
 | _=>false
theorem Ob.holds_ren {β:Env} {w:World} {g:Pl} {ρ:Nat→Nat}:∀ {o:Ob},o.plainB=true→(o.ren ρ).holds β w g→o.holds (fun k=>β (ρ k)) w g
 | .box cs t,_,h=>⟨h.1,by
  rw [h.2,List.map_map]
  rw [show (Lf.den β ∘ Lf.ren ρ)=Lf.den (fun k=>β (ρ k)) from funext fun x=>Lf.den_ren β ρ x]⟩
 | .th _,_,h=>h
theorem Ob.holds_cg {q:Nat→Bool} {β β':Env} {w:World} {g:Pl} (hq:∀ k,q k=true→β k=β' k):∀ {o:Ob},o.plainB=true→o.of q=true→o.holds β w g→o.holds β' w g
 | .box cs t,_,h,k=>⟨k.1,by rw [k.2,all_congr h (Lf.den_congr hq)]⟩
 | .th _,_,_,k=>k
structure OSpec (P:Program) where
 f:FuncId
 en:Enters P f
 args:List SV
 obs:List Ob
 res:SV
 news:List Rat
 ok:∀ β w,(∀ (k:Nat) (o:Ob),obs[k]?=some o→o.holds β w (β k))→Calls P f (args.map (SV.den β)).toArray w fun e w'=>∃ xs:List Pl,(∀ x∈xs,∀ c,x.F c→w.heap.size≤c∨∃ i o,obs[i]?=some o∧o.isTh=true∧(β i).F c)∧e=.returned (res.den (extE β obs.length xs))∧newHold w' (news.map ratT) xs∧Below w.heap.size w w'
 closed:(args.all (SV.of fun k=>Nat.blt k obs.length)&&obs.all (fun x=>x.of (fun k=>Nat.blt k obs.length)&&x.plainB)&&res.of fun k=>Nat.blt k (obs.length+news.length))=true
def mtBox (o c:Ob):List (Nat × Nat):=match o,c with
 | .box xs _,.box ys _=>mtLs xs ys
 | _,_=>[]
def mtObs (obs ob:List Ob):List (Nat × Nat)→List (Nat × Nat)
 | []=>[]
 | (k,j)::r=>(match obs[k]?,ob[j]? with | some o,some c=>mtBox o c | _,_=>[])++mtObs obs ob r
def sigO {P:Program} (S:OSpec P) (xs:List SV) (ob:List Ob):List Nat:=sigL (mtVs S.args xs++mtObs S.obs ob (mtVs S.args xs)) 0 S.obs.length
def needsO (σ:List Nat) (ρ:Nat→Nat):List Ob→Nat→List (Nat × Ob)
 | [],_=>[]
 | o::r,k=>(lit (σ.getD k 0) fun j=>j,o.ren ρ)::needsO σ ρ r (k+1)
theorem needsO_at {σ:List Nat} {ρ:Nat→Nat}:∀ {l:List Ob} {i k:Nat} {o:Ob},l[k]?=some o→(σ.getD (i+k) 0,o.ren ρ)∈needsO σ ρ l i
 | x::r,i,0,o,h=>by
  simp only [List.getElem?_cons_zero] at h
  obtain rfl:=Option.some.inj h
  unfold needsO
  rw [lit_eq]
  exact List.mem_cons_self ..
 | x::r,i,k+1,o,h=>by
  have:=needsO_at (σ:=σ) (ρ:=ρ) (l:=r) (i:=i+1) (k:=k) (o:=o) (by simpa using h)
  rw [show i+(k+1)=i+1+k by omega]
  exact List.mem_cons_of_mem _ this
def OSpec.ev {P:Program} (S:OSpec P) (σ:List Nat) (n:Nat) (hσ:(Nat.ble S.obs.length σ.length&&σ.all fun k=>Nat.blt k n)=true):Ev P :=
 .call S.f S.en (fun β=>(S.args.map (SV.den fun k=>β (atS σ S.obs.length n k))).toArray) (needsO σ (atS σ S.obs.length n) S.obs 0) n (S.res.ren (atS σ S.obs.length n)) (S.news.map ratT) fun β w h=>by
  have hc:=S.closed
  simp only [Bool.and_eq_true] at hc
  have hat:∀ k,k<S.obs.length→atS σ S.obs.length n k=σ.getD k 0:=fun k hk=>by
   unfold atS
   rw [lit_eq,show Nat.blt k S.obs.length=true by rw [Nat.blt_eq]; exact hk,cond_true]
  have hat2:∀ k,¬ k<S.obs.length→atS σ S.obs.length n k=n+(k-S.obs.length):=fun k hk=>by
   unfold atS
   rw [lit_eq,show Nat.blt k S.obs.length=false by rw [Bool.eq_false_iff,ne_eq,Nat.blt_eq]; exact hk,cond_false]
  rw [Bool.and_eq_true,Nat.ble_eq] at hσ
  have hsn:∀ k,k<S.obs.length→σ.getD k 0<n:=fun k hk=>by
   rw [List.getD_eq_getElem?_getD]
   cases hx:σ[k]? with
   | none=>rw [List.getElem?_eq_none_iff] at hx; omega
   | some y=>have:=List.all_eq_true.1 hσ.2 y (List.mem_of_getElem? hx); rw [Nat.blt_eq] at this; exact this
  have hq:∀ k,Nat.blt k S.obs.length=true→β (atS σ S.obs.length n k)=β (σ.getD k 0):=fun k hk=>by rw [hat k (by simpa [Nat.blt_eq] using hk)]
  have hargs:S.args.map (SV.den fun k=>β (atS σ S.obs.length n k))=S.args.map (SV.den fun k=>β (σ.getD k 0)):=List.map_congr_left fun x hx=>SV.den_congr hq _ (List.all_eq_true.1 hc.1.1 x hx)
  rw [hargs]
  refine (S.ok (fun k=>β (σ.getD k 0)) w fun k o hk=>?_).mono ?_
  · have ho:=List.all_eq_true.1 hc.1.2 o (List.mem_of_getElem? hk)
    rw [Bool.and_eq_true] at ho
    have hlt:k<S.obs.length:=(List.getElem?_eq_some_iff.1 hk).1
    have h1:(o.ren (atS σ S.obs.length n)).holds β w (β (σ.getD k 0)):=by
     have:=h _ (needsO_at (i:=0) hk)
     rwa [Nat.zero_add] at this
    exact Ob.holds_cg hq ho.2 ho.1 (Ob.holds_ren ho.2 h1)
  · rintro e w' ⟨xs,h1,rfl,h3,h4⟩
    refine ⟨xs,fun x hx c hc2=>?_,?_,h3,h4⟩
    · rcases h1 x hx c hc2 with h5 | ⟨i,o,h5,h6,h7⟩
      · exact .inl h5
      · refine .inr ⟨_,needsO_at (i:=0) h5,?_,?_⟩
        · cases o<;>first | exact h6 | cases h6
        · rw [Nat.zero_add]; exact h7
    · rw [SV.den_ren]
      congr 1
      refine SV.den_congr (fun k hk=>?_) _ hc.2
      have hlen:=(newHold_get h3).1
      rw [List.length_map] at hlen
      rw [Nat.blt_eq] at hk
      by_cases hk2:k<S.obs.length
      · rw [hat k hk2,extE_out (β:=β) (n:=n) (k:=σ.getD k 0) (xs:=xs) (by have:=hsn k hk2; omega),extE_out (n:=S.obs.length) (k:=k) (xs:=xs) (by omega)]
      · rw [hat2 k hk2]
        have h5:k-S.obs.length<xs.length:=by omega
        rw [extE_in (List.getElem?_eq_getElem h5)]
        have:=extE_in (β:=fun k=>β (σ.getD k 0)) (n:=S.obs.length) (List.getElem?_eq_getElem h5)
        rw [show S.obs.length+(k-S.obs.length)=k by omega] at this
        exact this
def OSpec.e {P:Program} (S:OSpec P):Ev P:=.dyn (fun o _ _=>isCallB o) fun _ xs ob =>
 lits (sigO S xs ob) fun σ=>lit ob.length fun n=>if h:(Nat.ble S.obs.length σ.length&&σ.all fun k=>Nat.blt k n)=true then S.ev σ n h else .eqv 0 undef undef rfl
theorem ptr_no_rat {w:World} {b:Nat} {cs:Array Value} {t:TypeId} {x:Rat} {q:Option Addr} (h:w.heap[b]?=some (.cells cs t (0,0))) (hq:cs[1]?=some (.pointer q)) (k:RatAt w b 0 x):False:=by
 obtain ⟨A,m,cap,_,h1,_⟩:=k.2.1.open_
 have h2:=cell_lay (o:=1) h hq
 rw [Nat.zero_add,h2] at h1
 cases h1
theorem str1_no_rat {w:World} {b:Nat} {cs:Array Value} {t:TypeId} {x:Rat} {q:ByteArray} (h:w.heap[b]?=some (.cells cs t (0,0))) (hq:cs[1]?=some (.string q)) (k:RatAt w b 0 x):False:=by
 obtain ⟨A,m,cap,_,h1,_⟩:=k.2.1.open_
 have h2:=cell_lay (o:=1) h hq
 rw [Nat.zero_add,h2] at h1
 cases h1
theorem small_no_rat {w:World} {b:Nat} {cs:Array Value} {t:TypeId} {x:Rat} (h:w.heap[b]?=some (.cells cs t (0,0))) (hs:cs.size<4) (k:RatAt w b 0 x):False:=by
 obtain ⟨cs',t',h1,_,h2⟩:=k.1
 rw [h] at h1
 obtain ⟨rfl,_,_⟩:=Obj.cells.inj (Option.some.inj h1)
 omega
def idxO (P:Program) (fn:Func) (args:List SV) (obs:List Ob) (evs:List (Ev P)) (Ns:List (Nat × Nat)) (m:Nat) (res:SV):List (Nat × Nat) :=
 match fn.body with
 | some c=>match fullS P fn args obs evs Ns m c with
  | some f=>match run1 P obs.length false (results fn (tmpsS idE f.sl (sizeS fn args))) f.q f.ob [] with
   | some ⟨v,_,_,_⟩=>mtR res (tag v)
   | none=>[]
  | none=>[]
 | none=>[]
def specO (P:Program) (fn:Func) (args:List SV) (obs:List Ob) (evs:List (Ev P)) (Ns:List (Nat × Nat)) (m:Nat) (res:SV) (news:List Rat) (idx:List Nat) (β:Env):Eqs :=
 allS P fn args obs evs Ns m (res.ren (backS obs.length idx)) (idx.zip (news.map fun x=>(ratT x).ob)) β
def specOA (P:Program) (fn:Func) (args:List SV) (obs:List Ob) (evs:List (Ev P)) (Ns:List (Nat × Nat)) (m:Nat) (res:SV) (news:List Rat) (β:Env):Eqs :=
 lits (sigL (idxO P fn args obs evs Ns m res) obs.length news.length) fun idx=>specO P fn args obs evs Ns m res news idx β
theorem newHold_rats {β:Env} {w:World}:∀ {idx:List Nat} {l:List Rat},idx.length=l.length→holdsAll β w (idx.zip (l.map fun x=>(ratT x).ob))→newHold w (l.map ratT) (idx.map β)
 | [],[],_,_=>trivial
 | [],_::_,h,_=>by simp at h
 | _::_,[],h,_=>by simp at h
 | i::r,t::l,h,k=>⟨k (i,(ratT t).ob) (by simp),newHold_rats (by simpa using h) fun p hp=>k p (by simp only [List.map_cons,List.zip_cons_cons]; exact List.mem_cons_of_mem _ hp)⟩
theorem ospec_ok {P:Program} {f:FuncId} {fn:Func} {args:List SV} {obs:List Ob} {evs:List (Ev P)} {Ns:List (Nat × Nat)} {m:Nat} {res:SV} {news:List Rat} (hf:P.funcs[f]?=some fn) (hm:P.follows .mixedOrders=true)
  (h0:∀ β,(specOA P fn args obs evs Ns m res news β).map Prod.fst=(specOA P fn args obs evs Ns m res news β).map Prod.snd)
  (hB:(args.all (SV.of fun k=>Nat.blt k obs.length)&&obs.all (fun x=>x.of (fun k=>Nat.blt k obs.length)&&x.plainB)&&res.of fun k=>Nat.blt k (obs.length+news.length))=true)
  (β:Env) (w:World) (hh:∀ (k:Nat) (o:Ob),obs[k]?=some o→o.holds β w (β k)) :
  Calls P f (args.map (SV.den β)).toArray w fun e w'=>∃ xs:List Pl,(∀ x∈xs,∀ c,x.F c→w.heap.size≤c∨∃ i o,obs[i]?=some o∧o.isTh=true∧(β i).F c)∧e=.returned (res.den (extE β obs.length xs))∧newHold w' (news.map ratT) xs∧Below w.heap.size w w':=by
 obtain ⟨idx,hidx⟩:∃ idx,idx=sigL (idxO P fn args obs evs Ns m res) obs.length news.length:=⟨_,rfl⟩
 have hlen:idx.length=news.length:=by rw [hidx,sigL_len]
 have h:∀ β,(specO P fn args obs evs Ns m res news idx β).map Prod.fst=(specO P fn args obs evs Ns m res news idx β).map Prod.snd:=fun β=>by
  have:=h0 β
  unfold specOA at this
  rw [lits_eq,← hidx] at this
  exact this
 simp only [Bool.and_eq_true] at hB
 obtain ⟨⟨h1,h2⟩,h3⟩:=hB
 refine (sx (P:=P) args obs evs Ns m (res.ren (backS obs.length idx)) (idx.zip (news.map fun x=>(ratT x).ob)) hf hm (fun β=>ok_of_maps (h β)) h1
  (List.all_eq_true.2 fun x hx=>by
   have:=List.all_eq_true.1 h2 x hx
   rw [Bool.and_eq_true] at this ⊢
   refine ⟨this.1,?_⟩
   have h4:=this.2
   cases x<;>first | rfl | cases h4) β w hh).mono ?_
 rintro e w' ⟨β',q,obj,e1,rfl,e2,e4,e5,g⟩
 have hz:(idx.zip (news.map fun x=>(ratT x).ob)).map (fun p=>β' p.1)=idx.map β':=by
  rw [show (fun p:Nat × Ob=>β' p.1)=β' ∘ Prod.fst from rfl,← List.map_map,List.map_fst_zip (by rw [List.length_map]; omega)]
 refine ⟨idx.map β',fun x hx c hcF=>?_,?_,newHold_rats hlen e5,g.bel⟩
 · rw [← hz] at hx
   obtain ⟨p,hp,rfl⟩:=List.mem_map.1 hx
   rcases e4 p hp c hcF with h5 | ⟨i,h5,h6⟩
   · exact .inl h5
   · have ho:=List.getElem?_eq_getElem h5
     have hpl:=List.all_eq_true.1 h2 obs[i] (List.getElem_mem h5)
     rw [Bool.and_eq_true] at hpl
     have hho:=hh i _ ho
     generalize obs[i]=o at ho hpl hho
     cases o with
     | th D=>exact .inr ⟨i,_,ho,rfl,h6⟩
     | box cs t =>
      exfalso
      obtain ⟨hone,hheap⟩:=hho
      have hcb:=(hone.1 c).1 h6
      subst hcb
      obtain ⟨r,hr⟩:∃ r,p.2=(ratT r).ob:=by
       have:=(List.of_mem_zip hp).2
       obtain ⟨r,_,hr⟩:=List.mem_map.1 this
       exact ⟨r,hr.symm⟩
      have hD:=e5 p hp
      rw [hr] at hD
      obtain ⟨b,hb1,hb2⟩:PR r w' (β' p.1):=hD
      have hcb:=(hb1.2 _).1 hcF
      subst hcb
      have hw:w'.heap[(β i).b]?=some (.cells (cs.map (Lf.den β)).toArray t (0,0)):=by rw [g.bel.block _ (heap_lt hheap)]; exact hheap
      have:=hpl.2
      unfold Ob.plainB at this
      rw [Bool.or_eq_true,Nat.blt_eq] at this
      rcases this with this | this
      · exact small_no_rat hw (by simpa using this) hb2
      · have hq:(∃ q,(cs.map (Lf.den β))[1]?=some (.pointer q))∨∃ q,(cs.map (Lf.den β))[1]?=some (.string q):=by
         rw [List.getElem?_map]
         unfold ptrB at this
         split at this
         · rename_i k j e; rw [e]; exact .inl ⟨_,rfl⟩
         · rename_i k j e; rw [e]; exact .inl ⟨_,rfl⟩
         · rename_i k e; rw [e]; exact .inr ⟨_,rfl⟩
         · cases this
        rcases hq with ⟨q,hq⟩ | ⟨q,hq⟩
        · exact ptr_no_rat hw (by simpa using hq) hb2
        · exact str1_no_rat hw (by simpa using hq) hb2
     | al r D=>cases hpl.2
     | pl n=>cases hpl.2
     | row cs t n sz=>cases hpl.2
     | ow D t=>cases hpl.2
     | dead=>cases hpl.2
 · rw [SV.den_ren]
   congr 1
   refine SV.den_congr (fun k hk=>?_) _ h3
   rw [Nat.blt_eq] at hk
   unfold backS
   rw [lit_eq]
   by_cases hk2:k<obs.length
   · rw [show Nat.blt k obs.length=true by rw [Nat.blt_eq]; exact hk2,cond_true,extE_out (by omega)]
     exact e1 k hk2
   · rw [show Nat.blt k obs.length=false by rw [Bool.eq_false_iff,ne_eq,Nat.blt_eq]; exact hk2,cond_false]
     have h5:k-obs.length<idx.length:=by omega
     have:=extE_in (β:=β) (n:=obs.length) (xs:=idx.map β') (i:=k-obs.length) (x:=β' idx[k-obs.length]) (by simp [h5])
     rw [show obs.length+(k-obs.length)=k by omega] at this
     rw [this,List.getD_eq_getElem?_getD,List.getElem?_eq_getElem h5,Option.getD_some]
def OSpec.auto {P:Program} {f:FuncId} {fn:Func} (en:Enters P f) (args:List SV) (obs:List Ob) (res:SV) (news:List Rat) (evs:List (Ev P)) (Ns:List (Nat × Nat)) (m:Nat) (hf:P.funcs[f]?=some fn) (hm:P.follows .mixedOrders=true)
  (hB:(args.all (SV.of fun k=>Nat.blt k obs.length)&&obs.all (fun x=>x.of (fun k=>Nat.blt k obs.length)&&x.plainB)&&res.of fun k=>Nat.blt k (obs.length+news.length))=true)
  (h:∀ β,(specOA P fn args obs evs Ns m res news β).map Prod.fst=(specOA P fn args obs evs Ns m res news β).map Prod.snd):OSpec P :=
 ⟨f,en,args,obs,res,news,ospec_ok hf hm h hB,hB⟩
theorem text_no_rat {w:World} {b:Nat} {c0:Value} {s:ByteArray} {l:List Value} {t:TypeId} {x:Rat} (h:w.heap[b]?=some (.cells (c0::.string s::l).toArray t (0,0))) (k:RatAt w b 0 x):False:=by
 obtain ⟨A,m,cap,_,h1,_⟩:=k.2.1.open_
 have h2:=cell_lay (o:=1) h rfl
 rw [Nat.zero_add,h2] at h1
 cases h1
abbrev opA:List SV:=[.one (.c (.b (.s 0 0 2 2)))]
def op2L (a b:Gn):List Lf:=rL a.x++rL a.y++rL b.x++rL b.y
def numR (z w:GQ):List Cd:=[.r z.re,.r z.im,.r w.re,.r w.im]
def five (z w:GQ):List (Nat × Ob):=[(13,.row [.b (.z 3 0),.b (.z 4 0),.b (.z 9 0),.b (.z 10 0)] 165 2 2),(3,(ratT z.re).ob),(4,(ratT z.im).ob),(9,(ratT w.re).ob),(10,(ratT w.im).ob)]
noncomputable def opE {z w:GQ} (hz:FitG z) (hw:FitG w):List (Ev Tryz.prog):=[.app appN,ofE hz,.app appN,ofE hw,.app appN]
theorem open2_eqs {z w:GQ} (hz:FitG z) (hw:FitG w) (β:Env) :
  (allS Tryz.prog Tryz.f257 opA [.box (op2L (.ok z hz) (.ok w hw)) 27] (opE hz hw) [] 800 (.tup [.c (.b (.r 13 2)),.c (.b (.v (.int .i64 0)))]) (five z w) β).map Prod.fst =
  (allS Tryz.prog Tryz.f257 opA [.box (op2L (.ok z hz) (.ok w hw)) 27] (opE hz hw) [] 800 (.tup [.c (.b (.r 13 2)),.c (.b (.v (.int .i64 0)))]) (five z w) β).map Prod.snd:=by kernel_rfl
theorem opened_ok {z w':GQ} (hz:FitG z) (hw:FitG w') (β:Env) (w:World) (hh:(Ob.box (op2L (.ok z hz) (.ok w' hw)) 27).holds β w (β 0)) :
  Calls Tryz.prog 257 (opA.map (SV.den β)).toArray w fun e u=>∃ xs:List Pl,(∀ x∈xs,∀ c,x.F c→w.heap.size≤c)∧e=.returned ((SV.tup [.c (.b (.y 1 4 2)),.c (.b (.v (.int .i64 0)))]).den (extE β 1 xs))∧newHold u [rowT 165 (numR z w')] xs∧Below w.heap.size w u:=by
 refine (sx (P:=Tryz.prog) opA [.box (op2L (.ok z hz) (.ok w' hw)) 27] (opE hz hw) [] 800 (.tup [.c (.b (.r 13 2)),.c (.b (.v (.int .i64 0)))]) (five z w') Tryz.func257 hmA (fun β=>ok_of_maps (open2_eqs hz hw β)) (by kernel_rfl) (by kernel_rfl) β w (fun k o ho=>?_)).mono ?_
 · cases k with
   | zero=>simp only [List.getElem?_cons_zero] at ho; obtain rfl:=Option.some.inj ho; exact hh
   | succ k=>simp at ho
 · rintro e u ⟨β',q,obj,e1,rfl,e2,e4,e5,g⟩
   have hnew:∀ p∈five z w',∀ c,(β' p.1).F c→c≠(β 0).b→w.heap.size≤c:=fun p hp c hc hne=>by
    rcases e4 p hp c hc with h | ⟨i,hi,h⟩
    · exact h
    · obtain rfl:i=0:=by simp only [List.length_singleton] at hi; omega
      exact absurd ((hh.1.1 c).1 h) hne
   have hu:u.heap[(β 0).b]?=some (.cells ((op2L (.ok z hz) (.ok w' hw)).map (Lf.den β)).toArray 27 (0,0)):=by rw [g.bel.block _ (heap_lt hh.2)]; exact hh.2
   have hrat:∀ (k:Nat) (x:Rat),(k,(ratT x).ob)∈five z w'→∃ b,(β' k).v 0=some ⟨b,0,none⟩∧w.heap.size≤b∧RatAt u b 0 x:=fun k x hk=>by
    obtain ⟨b,hb,hx⟩:PR x u (β' k):=e5 _ hk
    refine ⟨b,hb.1,hnew _ hk b ((hb.2 b).2 rfl) fun e=>?_,hx⟩
    rw [e] at hx
    exact text_no_rat hu hx
   obtain ⟨b1,p1,n1,k1⟩:=hrat 3 z.re (by simp [five])
   obtain ⟨b2,p2,n2,k2⟩:=hrat 4 z.im (by simp [five])
   obtain ⟨b3,p3,n3,k3⟩:=hrat 9 w'.re (by simp [five])
   obtain ⟨b4,p4,n4,k4⟩:=hrat 10 w'.im (by simp [five])
   obtain ⟨hone,cur,hcur,hcl,hn,hcm,hsz,htake⟩:=e5 (13,.row [.b (.z 3 0),.b (.z 4 0),.b (.z 9 0),.b (.z 10 0)] 165 2 2) (by simp [five])
   have hr:w.heap.size≤(β' 13).b:=hnew _ (by simp [five]) _ ((hone.1 _).2 rfl) fun e=>by
    rw [e,hu] at hcur
    have:=(Obj.cells.inj (Option.some.inj hcur)).2.1
    exact absurd this (by decide)
   refine ⟨[⟨(β' 13).b,fun i=>match i with | 0=>some ⟨b1,0,none⟩ | 1=>some ⟨b2,0,none⟩ | 2=>some ⟨b3,0,none⟩ | 3=>some ⟨b4,0,none⟩ | _=>some ⟨(β' 13).b,0,none⟩,fun _=>(β' 13).c 0,fun c=>c=(β' 13).b∨c=b1∨c=b2∨c=b3∨c=b4,fun _=>undef⟩],fun x hx c hc=>?_,?_,⟨⟨⟨.inl rfl,cur,hcur,?_⟩,⟨⟨.inr ⟨b1,rfl,.inr (.inl rfl),k1⟩,.inr ⟨b2,rfl,.inr (.inr (.inl rfl)),k2⟩,.inr ⟨b3,rfl,.inr (.inr (.inr (.inl rfl))),k3⟩,.inr ⟨b4,rfl,.inr (.inr (.inr (.inr rfl))),k4⟩,trivial⟩,rfl⟩,fun c hc=>?_⟩,trivial⟩,g.bel⟩
   · obtain rfl:=List.mem_singleton.1 hx
     rcases hc with rfl | rfl | rfl | rfl | rfl<;>assumption
   · rfl
   · have:(numR z w').length=2*2:=rfl
     rw [this,htake]
     show [Value.pointer _,.pointer _,.pointer _,.pointer _]=[Value.pointer _,.pointer _,.pointer _,.pointer _]
     show [Value.pointer ((β' 3).v 0),.pointer ((β' 4).v 0),.pointer ((β' 9).v 0),.pointer ((β' 10).v 0)]=_
     rw [p1,p2,p3,p4]
     rfl
   · rcases hc with rfl | rfl | rfl | rfl | rfl
     · exact heap_lt hcur
     · exact k1.lt
     · exact k2.lt
     · exact k3.lt
     · exact k4.lt
noncomputable def sOpened {z w:GQ} (hz:FitG z) (hw:FitG w):CSpec Tryz.prog :=
 ⟨257,Tryz.call257,opA,op2L (.ok z hz) (.ok w hw),27,.tup [.c (.b (.y 1 4 2)),.c (.b (.v (.int .i64 0)))],[rowT 165 (numR z w)],opened_ok hz hw,by kernel_rfl⟩
abbrev FT2:TypeId:=161
abbrev FT1:TypeId:=299
def FN (v:Value) (T:TypeId) (w:World) (g:Pl):Prop:=∃ b,At1 g b∧w.heap[b]?=some (.cells #[v] T (0,0))
theorem fn_stable (v:Value) (T:TypeId):Stable (FN v T) :=
 ⟨fun w g ⟨b,h,k⟩ c hc=>by rw [(h.2 c).1 hc]; exact heap_lt k,fun w w' g ⟨b,h,k⟩ hb=>⟨b,h,by rw [hb.block b (heap_lt k)]; exact k⟩,
  fun w w' g b o n m ⟨d,h,k⟩ hs ht hne=>⟨d,h,by rw [ht.block d (heap_lt k) fun e=>hne ((h.2 b).2 e.symm)]; exact k⟩⟩
def funT (v:Value) (T:TypeId):Thing:=thing (FN v T) (fn_stable v T)
abbrev fnV (g:FuncId):Value:=.func (.func g) #[] #[]
abbrev fnL (g:FuncId):Lf:=.f (.func g) [] []
def rdFun (d t:Nat) (g:FuncId) (k:Nat):Ev Tryz.prog:=.rd d (.load FT2 (.tmp t)) (fun β=>[.pointer ((β k).v 0)]) [(k,(funT (fnV g) FT2).ob)] 0 (.one (.c (fnL g))) [] (fun β w h ρ o ho hx=>by
 obtain ⟨b,hb,hk⟩:FN (fnV g) FT2 w (β k):=h (k,(funT (fnV g) FT2).ob) (by simp)
 have h2:ρ (.tmp t)=.pointer (some ⟨b,0,none⟩):=by
  rw [hb.1] at hx
  simpa [Op.operands] using hx
 have hc:=cell_lay (o:=0) (u:=fnV g) hk rfl
 have hagg:(isAgg FT2).run Tryz.prog w=.ok false w:=by
  unfold isAgg
  simp [run_underlying Tryz.underlying161]
 have hl:(loadVar FT2 ⟨b,0,none⟩).run Tryz.prog w=.ok (fnV g) w:=by
  unfold loadVar
  simp [hagg,hc]
 refine ⟨[],w,(fun _ h=>by cases h),?_,trivial,Below.refl _ _⟩
 unfold execOp
 rw [ho]
 simp only [h2]
 simp [Instr.loadAt,Instr.sureAddr,hl,Result.andThen]
 rfl)
def dFun (g:FuncId):Ev Tryz.prog:=.dyn (fun o xs ob=>match o.op with
 | .load T (.tmp _)=>Nat.beq T FT2
 | _=>false) fun o xs _=>match o.op with
 | .load _ (.tmp t)=>lit (ptOf (xs.getD 0 undefS)) fun k=>rdFun (o.dst.getD 0) t g k
 | _=>.eqv 0 undef undef rfl
abbrev sureL:Lf:=.f (.func 259) [] [.z 0 0]
abbrev madeL:Lf:=.f (.func 332) [] [.p 0 0]
theorem sure_ok (g:FuncId) (β:Env) (w:World):Calls Tryz.prog 121 (([.one (.c (fnL g))]:List SV).map (SV.den β)).toArray w fun e u=>∃ xs:List Pl,freshS β w 0 xs∧e=.returned ((SV.one (.c sureL)).den (extE β 0 xs))∧newHold u [funT (fnV g) FT2] xs∧Below w.heap.size w u:=by
 refine (sx (P:=Tryz.prog) [.one (.c (fnL g))] [] [] [] 400 (.one (.c (.f (.func 259) [] [.p 0 0]))) [(0,.box [fnL g] FT2)] Tryz.func121 hmA (fun β=>ok_of_maps (by kernel_rfl)) (by kernel_rfl) (by kernel_rfl) β w (fun k o ho=>by simp at ho)).mono ?_
 rintro e u ⟨β',q,obj,e1,rfl,e2,e4,e5,gd⟩
 obtain ⟨hone,hheap⟩:=e5 (0,.box [fnL g] FT2) (by simp)
 refine ⟨[newPl (β' 0).b],fun x hx c hc=>?_,rfl,⟨⟨_,(newPl_one _).at1,hheap⟩,trivial⟩,gd.bel⟩
 obtain rfl:=List.mem_singleton.1 hx
 rw [((newPl_one _).1 c).1 hc]
 exact e4 (0,.box [fnL g] FT2) (by simp) _ ((hone.1 _).2 rfl)
def sSure (g:FuncId):Spec Tryz.prog :=
 ⟨121,Tryz.call121,[.one (.c (fnL g))],[],.one (.c sureL),[funT (fnV g) FT2],fun β w _=>sure_ok g β w,by kernel_rfl⟩
noncomputable abbrev gA2 (z:GQ):SV:=.tup [.a (lsX (gaC z)),nI' (gaK z)]
abbrev ga0 (k:Int):SV:=.tup [.a (lsX g0C),nI' k]
abbrev gnS (a:Gn):SV:=.one (.a (rL a.x++rL a.y))
theorem _root_.Go.Proofs.YthkpghhoffihmaaGreatDoor.FitG.gsz {z:GQ} (h:FitG z):GSz 1024 z:=⟨h.1.sz,h.2.sz⟩
noncomputable def sSureMul {z w:GQ} (hz:FitG z) (hw:FitG w):Spec Tryz.prog :=
 Spec.auto Tryz.call259 [nV 0,nV 2,.one (.c (.b (.z 4 0)))] (gM z++gM w++[funT (fnV 124) FT2]) (.tup [nA 5,nI' 0]) (gT (gmul z w)) [dFun 124,(sMul (hz.gsz.mono (by decide)) (hw.gsz.mono (by decide))).e] [] 400 Tryz.func259 hmA (by kernel_rfl) (fun β=>by kernel_rfl)
noncomputable def sTwoMul {z w:GQ} (hz:FitG z) (hw:FitG w):Spec Tryz.prog :=
 Spec.auto Tryz.call120 [gS z,gS w,.one (.c sureL)] [funT (fnV 124) FT2] (gA2 (gmul z w)) [] [(sOpened hz hw).e,dIdx 165 (numR z w),dNum 165 (numR z w),dIdx 165 (numR z w),dNum 165 (numR z w),(sSureMul hz hw).e,(sTold ((hz.gsz.mul hw.gsz).mono (by decide))).e] [(4,13012013)] 800 Tryz.func120 hmA (by kernel_rfl) (fun β=>by kernel_rfl)
noncomputable def sGMul {z w:GQ} (hz:FitG z) (hw:FitG w):Spec Tryz.prog :=
 Spec.auto Tryz.call36 [gS z,gS w] [] (gA2 (gmul z w)) [] [(sSure 124).e,(sTwoMul hz hw).e] [(1,6)] 400 Tryz.func36 hmA (by kernel_rfl) (fun β=>by kernel_rfl)
end Go.Proofs.YthkpghhoffihmaaGreatDoor.Y
end
section
namespace Go.Proofs.YthkpghhoffihmaaGreatDoor
open Go.RowKit
set_option maxRecDepth 100000 in
theorem Lsh_any {w:World} {b o c p n k:Nat} (hz:Slot w b o 2) (hx:IntAt w c p (n:Int)) (hn:(dig n).length≤8589934592) (hk:k≤137438953472) :
  Calls Tryz.prog 368 #[.pointer (some ⟨b,o,none⟩),.pointer (some ⟨c,p,none⟩),.int .u64 (k:Int)] w fun e w'=>e=.returned (.pointer (some ⟨b,o,none⟩))∧IntAt w' b o ((n*2^k:Nat):Int)∧Touch w w' b o 2:=by
 obtain ⟨A,m,cap,hc0,hc1,hv,hlt⟩:=hx.open_
 rw [show decide ((n:Int)<0)=false by simp] at hc0
 rw [Int.natAbs_natCast] at hv
 have hm:=hv.len.1
 rw [← hm] at hn
 have HZ:=Lib.hid hz
 have HV:=Lib.hid hv
 have HC0:=Lib.hid hc0
 have HC1:=Lib.hid hc1
 clear hx hz hv hc0 hc1 hm
 go_enter Tryz.func368,Tryz.ntmps368
 go_wp2
 refine wp_region_acts 12 (fun w'=>Below w.heap.size w w') (fun w w'=>Below w.heap.size w w') (fun i w v=>match i with
   | 0=>v=.pointer (some ⟨b,o,none⟩)
   | 1=>v=.pointer (some ⟨c,p,none⟩)
   | 2=>v=.pointer (some ⟨c,p,none⟩)
   | 3=>v=.pointer (some ⟨c,p,none⟩)
   | 4=>v=.bool false
   | 5=>v=.pointer (some ⟨c,p,none⟩)
   | 6=>v=.pointer (some ⟨c,p,none⟩)
   | 7=>v=.pointer (some ⟨c,p+1,none⟩)
   | 8=>v=.slice A m cap
   | 9=>v=.int .u64 (k:Int)
   | 10=>v=.int .i64 (k:Int)
   | _=>∃ A' m' c',v=.slice A' m' c'∧Words w (.slice A' m' c') (dig (n*2^k))) (by kernel_rfl) (by kernel_rfl) (by kernel_rfl) ((Below.refl _ _).drew) (fun _ _=>Below.refl _ _) ?_ ⟨?_,?_,?_,?_,?_,?_,?_,?_,?_,?_,?_,?_,trivial⟩ ?_
 · intro i w1 w2 v hC hC2 hE hV
   match i with
   | 0=>exact hV
   | 1=>exact hV
   | 2=>exact hV
   | 3=>exact hV
   | 4=>exact hV
   | 5=>exact hV
   | 6=>exact hV
   | 7=>exact hV
   | 8=>exact hV
   | 9=>exact hV
   | 10=>exact hV
   | _+11=>obtain ⟨A',m',c',e,h⟩:=hV; exact ⟨A',m',c',e,h.below hE⟩
 · intro a' w' hag hC hd K hK
   have e0:a'.tmps.getD 0 undef=.pointer (some ⟨b,o,none⟩):=hag 0 rfl
   go_step
   exact hK _ _ hC (Below.refl _ _) rfl
 · intro a' w' hag hC hd K hK
   have e1:a'.tmps.getD 1 undef=.pointer (some ⟨c,p,none⟩):=hag 1 rfl
   go_step
   exact hK _ _ hC (Below.refl _ _) rfl
 · intro a' w' hag hC hd K hK
   have e8:a'.tmps.getD 8 undef=.pointer (some ⟨c,p,none⟩):=hd.1
   go_step
   exact hK _ _ hC (Below.refl _ _) rfl
 · intro a' w' hag hC hd K hK
   have e9:a'.tmps.getD 9 undef=.pointer (some ⟨c,p,none⟩):=hd.1
   go_step
   exact hK _ _ hC (Below.refl _ _) rfl
 · intro a' w' hag hC hd K hK
   have e10:a'.tmps.getD 10 undef=.pointer (some ⟨c,p,none⟩):=hd.1
   have hcell:w'.cell? ⟨c,p,none⟩=some (.bool false):=by rw [hC.cell (p:=⟨c,p,none⟩) hlt]; exact HC0.out
   have HC:=Lib.hid hC
   clear hC
   go_step
   exact hK _ _ HC.out (Below.refl _ _) rfl
 · intro a' w' hag hC hd K hK
   have e1:a'.tmps.getD 1 undef=.pointer (some ⟨c,p,none⟩):=hag 1 rfl
   go_step
   exact hK _ _ hC (Below.refl _ _) rfl
 · intro a' w' hag hC hd K hK
   have e12:a'.tmps.getD 12 undef=.pointer (some ⟨c,p,none⟩):=hd.1
   go_step
   exact hK _ _ hC (Below.refl _ _) rfl
 · intro a' w' hag hC hd K hK
   have e13:a'.tmps.getD 13 undef=.pointer (some ⟨c,p,none⟩):=hd.1
   go_step
   exact hK _ _ hC (Below.refl _ _) rfl
 · intro a' w' hag hC hd K hK
   have e14:a'.tmps.getD 14 undef=.pointer (some ⟨c,p+1,none⟩):=hd.1
   have hcell:w'.cell? ⟨c,p+1,none⟩=some (.slice A m cap):=by rw [hC.cell (p:=⟨c,p+1,none⟩) hlt]; exact HC1.out
   have HC:=Lib.hid hC
   clear hC
   go_step
   exact hK _ _ HC.out (Below.refl _ _) rfl
 · intro a' w' hag hC hd K hK
   have e2:a'.tmps.getD 2 undef=.int .u64 (k:Int):=hag 2 rfl
   go_step
   exact hK _ _ hC (Below.refl _ _) rfl
 · intro a' w' hag hC hd K hK
   have e16:a'.tmps.getD 16 undef=.int .u64 (k:Int):=hd.1
   go_step
   exact hK _ _ hC (Below.refl _ _) rfl
 · intro a' w' hag hC hd K hK
   have e15:a'.tmps.getD 15 undef=.slice A m cap:=hd.1
   have e17:a'.tmps.getD 17 undef=.int .i64 (k:Int):=hd.2.1
   go_step
   refine (left_any (HV.out.below hC) hn k hk).mono ?_
   rintro e w2 ⟨v,rfl,h1,h2⟩
   obtain ⟨A',m',c',rfl⟩:=h1.form
   rw [val_dig] at h1
   exact hK _ _ (hC.trans (h2.mono hC.size)) h2 ⟨_,_,_,rfl,h1⟩
 · intro u w' hC hall
   obtain ⟨u0,u1,u2,u3,u4,u5,u6,u7,u8,u9,u10,u11,_⟩:=hall
   have u0:u 0=.pointer (some ⟨b,o,none⟩):=u0
   have u1:u 1=.pointer (some ⟨c,p,none⟩):=u1
   have u2:u 2=.pointer (some ⟨c,p,none⟩):=u2
   have u3:u 3=.pointer (some ⟨c,p,none⟩):=u3
   have u4:u 4=.bool false:=u4
   have u5:u 5=.pointer (some ⟨c,p,none⟩):=u5
   have u6:u 6=.pointer (some ⟨c,p,none⟩):=u6
   have u7:u 7=.pointer (some ⟨c,p+1,none⟩):=u7
   have u8:u 8=.slice A m cap:=u8
   have u9:u 9=.int .u64 (k:Int):=u9
   have u10:u 10=.int .i64 (k:Int):=u10
   obtain ⟨A',m',c',eu11,hw'⟩:=u11
   have u11:u 11=.slice A' m' c':=eu11
   simp only [fillR,List.take_succ_cons,List.take_zero,Act.put,List.setIfInBounds_toArray,List.set_cons_succ,List.set_cons_zero,Nat.zero_add,Nat.reduceAdd,u0,u1,u2,u3,u4,u5,u6,u7,u8,u9,u10,u11]
   clear u0 u1 u2 u3 u4 u5 u6 u7 u8 u9 u10 u11
   have HW:=Lib.hid hw'
   have HC:=Lib.hid hC
   have hsl:=HZ.out.on hC
   clear hw' hC
   go_wp2_with (go_at_call 328; refine (is_any false hsl HW.out).mono ?_; rintro e w2 ⟨rfl,h1,h2⟩)
   go_ret
   rw [val_dig] at h1
   exact ⟨rfl,h1,(Touch.of_below HC.out _ _ _).trans h2⟩
set_option maxRecDepth 100000 in
theorem Rsh_any {w:World} {b o c p n k:Nat} (hz:Slot w b o 2) (hx:IntAt w c p (n:Int)) (hk:k≤1099511627776) :
  Calls Tryz.prog 369 #[.pointer (some ⟨b,o,none⟩),.pointer (some ⟨c,p,none⟩),.int .u64 (k:Int)] w fun e w'=>e=.returned (.pointer (some ⟨b,o,none⟩))∧IntAt w' b o ((n/2^k:Nat):Int)∧Touch w w' b o 2:=by
 obtain ⟨A,m,cap,hc0,hc1,hv,hlt⟩:=hx.open_
 rw [show decide ((n:Int)<0)=false by simp] at hc0
 rw [Int.natAbs_natCast] at hv
 have hm:m≤17179869184:=by have:=hv.len.1; have:=hv.2.1; omega
 have HZ:=Lib.hid hz
 have HV:=Lib.hid hv
 have HC0:=Lib.hid hc0
 clear hx hz hv
 go_enter Tryz.func369,Tryz.ntmps369
 go_wp2_with fail
 refine (right_any HV.out hm k hk).mono ?_
 rintro e w1 ⟨v,rfl,h1,h2⟩
 obtain ⟨A1,m1,c1,rfl⟩:=h1.form
 rw [val_dig] at h1
 have hd0:w1.cell? ⟨c,p,none⟩=some (.bool false):=by rw [h2.cell (p:=⟨c,p,none⟩) hlt]; exact HC0.out
 have hlt1:c<w1.heap.size:=Nat.lt_of_lt_of_le hlt h2.size
 have HD0:=Lib.hid hd0
 have HW:=Lib.hid h1
 have HB:=Lib.hid h2
 clear h1 h2 hc0 hc1 hd0
 go_wp2
 refine wp_region_acts 16 (fun w'=>Below w1.heap.size w1 w') (fun w w'=>Below w.heap.size w w') (fun i w v=>match i with
   | 0=>v=.pointer (some ⟨c,p,none⟩)
   | 1=>v=.pointer (some ⟨c,p,none⟩)
   | 2=>v=.pointer (some ⟨c,p,none⟩)
   | 3=>v=.bool false
   | 4=>v=.bool false
   | 5=>v=undef
   | 6=>v=undef
   | 7=>v=undef
   | 8=>v=undef
   | 9=>v=undef
   | 10=>v=undef
   | 11=>v=undef
   | 12=>v=undef
   | 13=>v=undef
   | 14=>v=undef
   | _=>v=.bool false) (by kernel_rfl) (by kernel_rfl) (by kernel_rfl) ((Below.refl _ _).drew) (fun _ _=>Below.refl _ _) ?_ ⟨?_,?_,?_,?_,?_,?_,?_,?_,?_,?_,?_,?_,?_,?_,?_,?_,trivial⟩ ?_
 · intro i w1 w2 v hC hC2 hE hV
   match i with
   | 0=>exact hV
   | 1=>exact hV
   | 2=>exact hV
   | 3=>exact hV
   | 4=>exact hV
   | 5=>exact hV
   | 6=>exact hV
   | 7=>exact hV
   | 8=>exact hV
   | 9=>exact hV
   | 10=>exact hV
   | 11=>exact hV
   | 12=>exact hV
   | 13=>exact hV
   | 14=>exact hV
   | _+15=>exact hV
 · intro a' w' hag hC hd K hK
   have e1:a'.tmps.getD 1 undef=.pointer (some ⟨c,p,none⟩):=hag 1 rfl
   go_step
   exact hK _ _ hC (Below.refl _ _) rfl
 · intro a' w' hag hC hd K hK
   have e15:a'.tmps.getD 15 undef=.pointer (some ⟨c,p,none⟩):=hd.1
   go_step
   exact hK _ _ hC (Below.refl _ _) rfl
 · intro a' w' hag hC hd K hK
   have e16:a'.tmps.getD 16 undef=.pointer (some ⟨c,p,none⟩):=hd.1
   go_step
   exact hK _ _ hC (Below.refl _ _) rfl
 · intro a' w' hag hC hd K hK
   have e17:a'.tmps.getD 17 undef=.pointer (some ⟨c,p,none⟩):=hd.1
   have hcell:w'.cell? ⟨c,p,none⟩=some (.bool false):=by rw [hC.cell (p:=⟨c,p,none⟩) hlt1]; exact HD0.out
   have HC:=Lib.hid hC
   clear hC
   go_step
   exact hK _ _ HC.out (Below.refl _ _) rfl
 · intro a' w' hag hC hd K hK
   have e18:a'.tmps.getD 18 undef=.bool false:=hd.1
   go_step
   exact hK _ _ hC (Below.refl _ _) rfl
 · intro a' w' hag hC hd
   exact ⟨fun hw=>Bool.noConfusion (hw.symm.trans (unwanted_of (j:=4) (d:=19) (b':=false) rfl rfl rfl hd.1 (by decide))),fun _=>rfl⟩
 · intro a' w' hag hC hd
   exact ⟨fun hw=>Bool.noConfusion (hw.symm.trans (unwanted_of (j:=4) (d:=19) (b':=false) rfl rfl rfl hd.1 (by decide))),fun _=>rfl⟩
 · intro a' w' hag hC hd
   exact ⟨fun hw=>Bool.noConfusion (hw.symm.trans (unwanted_of (j:=4) (d:=19) (b':=false) rfl rfl rfl hd.2.1 (by decide))),fun _=>rfl⟩
 · intro a' w' hag hC hd
   exact ⟨fun hw=>Bool.noConfusion (hw.symm.trans (unwanted_of (j:=4) (d:=19) (b':=false) rfl rfl rfl hd.2.2.1 (by decide))),fun _=>rfl⟩
 · intro a' w' hag hC hd
   exact ⟨fun hw=>Bool.noConfusion (hw.symm.trans (unwanted_of (j:=4) (d:=19) (b':=false) rfl rfl rfl hd.1 (by decide))),fun _=>rfl⟩
 · intro a' w' hag hC hd
   exact ⟨fun hw=>Bool.noConfusion (hw.symm.trans (unwanted_of (j:=4) (d:=19) (b':=false) rfl rfl rfl hd.2.1 (by decide))),fun _=>rfl⟩
 · intro a' w' hag hC hd
   exact ⟨fun hw=>Bool.noConfusion (hw.symm.trans (unwanted_of (j:=4) (d:=19) (b':=false) rfl rfl rfl hd.2.1 (by decide))),fun _=>rfl⟩
 · intro a' w' hag hC hd
   exact ⟨fun hw=>Bool.noConfusion (hw.symm.trans (unwanted_of (j:=4) (d:=19) (b':=false) rfl rfl rfl hd.2.1 (by decide))),fun _=>rfl⟩
 · intro a' w' hag hC hd
   exact ⟨fun hw=>Bool.noConfusion (hw.symm.trans (unwanted_of (j:=4) (d:=19) (b':=false) rfl rfl rfl hd.2.2.2.1 (by decide))),fun _=>rfl⟩
 · intro a' w' hag hC hd
   exact ⟨fun hw=>Bool.noConfusion (hw.symm.trans (unwanted_of (j:=4) (d:=19) (b':=false) rfl rfl rfl hd.2.1 (by decide))),fun _=>rfl⟩
 · intro a' w' hag hC hd K hK
   have e19:a'.tmps.getD 19 undef=.bool false:=hd.1
   have e29:a'.tmps.getD 29 undef=undef:=hd.2.1
   go_step
   exact hK _ _ hC (Below.refl _ _) rfl
 · intro u w' hC hall
   obtain ⟨u0,u1,u2,u3,u4,u5,u6,u7,u8,u9,u10,u11,u12,u13,u14,u15,_⟩:=hall
   have u0:u 0=.pointer (some ⟨c,p,none⟩):=u0
   have u1:u 1=.pointer (some ⟨c,p,none⟩):=u1
   have u2:u 2=.pointer (some ⟨c,p,none⟩):=u2
   have u3:u 3=.bool false:=u3
   have u4:u 4=.bool false:=u4
   have u5:u 5=undef:=u5
   have u6:u 6=undef:=u6
   have u7:u 7=undef:=u7
   have u8:u 8=undef:=u8
   have u9:u 9=undef:=u9
   have u10:u 10=undef:=u10
   have u11:u 11=undef:=u11
   have u12:u 12=undef:=u12
   have u13:u 13=undef:=u13
   have u14:u 14=undef:=u14
   have u15:u 15=.bool false:=u15
   simp only [fillR,List.take_succ_cons,List.take_zero,Act.put,List.setIfInBounds_toArray,List.set_cons_succ,List.set_cons_zero,Nat.zero_add,Nat.reduceAdd,u0,u1,u2,u3,u4,u5,u6,u7,u8,u9,u10,u11,u12,u13,u14,u15]
   clear u0 u1 u2 u3 u4 u5 u6 u7 u8 u9 u10 u11 u12 u13 u14 u15
   have HC:=Lib.hid hC
   have hc1:w'.cell? ⟨c,p,none⟩=some (.bool false):=by rw [hC.cell (p:=⟨c,p,none⟩) hlt1]; exact HD0.out
   have hsl:=(HZ.out.on HB.out).on hC
   have hw2:=HW.out.below hC
   clear hC
   go_wp2_with (go_at_call 328; refine (is_any false hsl hw2).mono ?_; rintro e w2 ⟨rfl,h1,h2⟩)
   go_ret
   rw [val_dig] at h1
   exact ⟨rfl,h1,((Touch.of_below HB.out _ _ _).trans (Touch.of_below HC.out _ _ _)).trans h2⟩
theorem newton_up (n R:Nat) (hR:0<R):n<((n/R+R)/2+1)*((n/R+R)/2+1):=by
 have h1:n<R*(n/R+1):=by have:=Nat.lt_mul_div_succ n hR; simpa [Nat.mul_add] using this
 generalize n/R=q at h1
 generalize hs:(q+R)/2=s
 have h2:q+1+R≤2*(s+1):=by omega
 refine Nat.lt_of_lt_of_le h1 ?_
 rcases Nat.le_total R (s+1) with h | h
 · obtain ⟨d,hd⟩:=Nat.exists_eq_add_of_le h
   rw [hd] at h2 ⊢
   have h3:q+1≤R+2*d:=by omega
   calc R*(q+1)≤R*(R+2*d):=Nat.mul_le_mul_left _ h3
    _≤(R+d)*(R+d):=by rw [Nat.mul_add,Nat.add_mul,Nat.mul_add,Nat.mul_add,Nat.mul_comm d R,Nat.mul_left_comm,Nat.two_mul]; omega
 · obtain ⟨d,hd⟩:=Nat.exists_eq_add_of_le h
   have h3:q+1+2*d≤R:=by omega
   rw [hd] at h2 ⊢
   have h4:q+1+d≤s+1:=by omega
   calc (s+1+d)*(q+1)=(s+1)*(q+1)+d*(q+1):=by rw [Nat.add_mul]
    _≤(s+1)*(q+1)+d*(s+1):=Nat.add_le_add_left (Nat.mul_le_mul_left _ (by omega)) _
    _=(s+1)*(q+1+d):=by rw [Nat.mul_add (s+1) (q+1) d,Nat.mul_comm d]
    _≤(s+1)*(s+1):=Nat.mul_le_mul_left _ h4
theorem newton_end (n R:Nat) (hR:0<R) (h:R≤(n/R+R)/2):R*R≤n:=by
 have h1:R≤n/R:=by omega
 exact Nat.le_trans (Nat.mul_le_mul_left _ h1) (Nat.mul_div_le n R)
theorem newton_pos (n R:Nat) (hn:0<n) (hR:0<R) (h:(n/R+R)/2<R):0<(n/R+R)/2:=by
 rcases Nat.lt_or_ge R 2 with h2 | h2
 · obtain rfl:R=1:=by omega
   rw [Nat.div_one] at h ⊢
   omega
 · generalize n/R=q at h ⊢
   omega
theorem okn_nat {m k:Nat} (h:m≤k) (hk:(dig k).length≤4294967296):Okn (m:Int):=by
 unfold Okn
 rw [Int.natAbs_natCast]
 exact Nat.le_trans (dig_len_mono _ _ h) hk
theorem cmpI_lt {a b:Nat} (h:a<b):cmpI (a:Int) (b:Int) = -1:=by
 unfold cmpI
 rw [if_pos (by omega)]
theorem cmpI_ge {a b:Nat} (h:b≤a):cmpI (a:Int) (b:Int)=0∨cmpI (a:Int) (b:Int)=1:=by
 unfold cmpI
 rw [if_neg (by omega)]
 by_cases k:(b:Int)<(a:Int)
 · rw [if_pos k]; exact .inr rfl
 · rw [if_neg k]; exact .inl rfl
theorem root_start {n L:Nat} (hn:0<n) (h:Bits n L):2^(L/2+1)≤4*n∧n<(2^(L/2+1)+1)*(2^(L/2+1)+1):=by
 have hL:0<L:=by
  rcases Nat.eq_zero_or_pos L with h0 | h0
  · subst h0; have:=h.1; simp at this; omega
  · exact h0
 have h1:=h.2 hL
 have h2:=h.1
 constructor
 · have h3:2^(L/2+1)≤2^(L-1+2):=Nat.pow_le_pow_right (by decide) (by omega)
   rw [show 2^(L-1+2)=2^(L-1)*4 from by rw [Nat.pow_add]] at h3
   exact Nat.le_trans h3 (by rw [Nat.mul_comm]; exact Nat.mul_le_mul_left _ h1)
 · have h3:2^L≤2^(L/2+1)*2^(L/2+1):=by
    rw [← Nat.pow_add]
    exact Nat.pow_le_pow_right (by decide) (by omega)
   have h4:2^(L/2+1)*2^(L/2+1)≤(2^(L/2+1)+1)*(2^(L/2+1)+1):=Nat.mul_le_mul (Nat.le_succ _) (Nat.le_succ _)
   omega
set_option maxHeartbeats 1600000 in
set_option maxRecDepth 100000 in
theorem Sqrt_any {w:World} {b o c p n:Nat} (hz:Slot w b o 2) (hx:IntAt w c p (n:Int)) (hn:(dig (5*n)).length≤4294967296) :
  Calls Tryz.prog 333 #[.pointer (some ⟨b,o,none⟩),.pointer (some ⟨c,p,none⟩)] w fun e w'=>e=.returned (.pointer (some ⟨b,o,none⟩))∧(∃ r:Nat,r*r≤n∧n<(r+1)*(r+1)∧IntAt w' b o (r:Int))∧Touch w w' b o 2:=by
 have HZ:=Lib.hid hz
 have HN:=Lib.hid hn
 rcases Nat.eq_zero_or_pos n with h0 | h0
 · subst h0
   have HX:Hid (IntAt w c p 0):=Lib.hid hx
   clear hz hx hn
   go_enter Tryz.func333,Tryz.ntmps333
   go_wp2_with fail
   refine (sign_any HX.out).mono ?_
   rw [Int.sign_zero]
   rintro e w1 ⟨rfl,rfl⟩
   go_wp2_with fail
   refine (is_any false HZ.out (Words.nil w)).mono ?_
   rintro e w2 ⟨rfl,h1,h2⟩
   have H1:=Lib.hid h1
   have H2:=Lib.hid h2
   clear h1 h2
   go_wp2
   go_ret
   exact ⟨rfl,⟨0,Nat.le_refl _,by decide,H1.out⟩,H2.out⟩
 · have HX:=Lib.hid hx
   have H0:=Lib.hid h0
   have hs:((n:Nat):Int).sign=1:=Int.sign_eq_one_of_pos (by omega)
   clear hz hx hn
   go_enter Tryz.func333,Tryz.ntmps333
   go_wp2_with fail
   refine (sign_any HX.out).mono ?_
   rw [hs]
   rintro e w1 ⟨rfl,rfl⟩
   clear hs h0
   go_wp2_with fail
   have HA:=Lib.hid ((Below.refl w.heap.size w).alloc (Nat.le_refl _) (.cells #[.bool false,.slice none 0 0] 177))
   have HS:=Lib.hid (IntAt.new w).slot
   refine (NewInt_any (n:=1) (by decide)).mono ?_
   rintro e w2 ⟨g1,rfl,hg1,h1,hb1⟩
   have H1:=Lib.hid h1
   have HS2:=Lib.hid (HS.out.on hb1)
   have HB2:=Lib.hid (HA.out.trans (hb1.mono HA.out.size))
   clear h1 hb1 hg1
   go_wp2_with fail
   refine (BitLen_any (HX.out.on HB2.out)).mono ?_
   rintro e w3 ⟨L,rfl,hL,hLb,hb2⟩
   rw [Int.natAbs_natCast] at hL
   obtain ⟨q,hq⟩:∃ q,q=L/2:=⟨_,rfl⟩
   have hqi:(L:Int)/2=(q:Int):=by omega
   have hqi2:(L:Int).tdiv 2=(q:Int):=by rw [Int.tdiv_eq_ediv_of_nonneg (by omega)]; exact hqi
   obtain ⟨k,hk⟩:∃ k,k=q+1:=⟨_,rfl⟩
   have hki:(q:Int)+1=(k:Int):=by omega
   have hkb:k≤274877906945:=by omega
   have hrs:=root_start H0.out hL
   rw [← hq,← hk] at hrs
   have HR:=Lib.hid hrs
   have H1b:=Lib.hid (H1.out.on hb2)
   have HS3:=Lib.hid (HS2.out.on hb2)
   have HB3:=Lib.hid (HB2.out.trans (hb2.mono HB2.out.size))
   have HKL:Hid (k≤137438953472):=by
    have h5:(dig n).length≤4294967296:=Nat.le_trans (dig_len_mono n (5*n) (by omega)) HN.out
    have h6:=dig_lt n
    rw [p32] at h6
    obtain ⟨E,hE⟩:∃ E:Nat,E=137438953472:=⟨_,rfl⟩
    have h7:n<2^E:=Nat.lt_of_lt_of_le h6 (Nat.pow_le_pow_right (by decide) (by omega))
    have h8:L≤E:=by
     rcases Nat.lt_or_ge E L with h9 | h9
     · have h10:=hL.2 (by omega)
       have h11:2^E≤2^(L-1):=Nat.pow_le_pow_right (by decide) (by omega)
       exact absurd (Nat.lt_of_lt_of_le h7 (Nat.le_trans h11 h10)) (Nat.lt_irrefl _)
     · exact h9
    clear h6 h7 hrs
    show k≤137438953472
    omega
   clear hb2 hL hrs hq hk
   go_wp2_with fail
   refine (Lsh_any (n:=1) (k:=k) HS3.out H1b.out (Nat.le_trans (dig_len_mono 1 (5*n) (by have:=H0.out; omega)) (Nat.le_trans HN.out (by decide))) HKL.out).mono ?_
   rintro e w4 ⟨rfl,h2,h3⟩
   rw [Nat.one_mul] at h2
   have H2:=Lib.hid h2
   have HB4:=Lib.hid (HB3.out.trans (h3.below (B:=w.heap.size) (Nat.le_refl _) HB3.out.size))
   clear h2 h3
   go_wp2
   go_loopg [5,6] (2^k) (fun m rv sv wr=>∃ (g R:Nat),rv=.pointer (some ⟨g,0,none⟩)∧R≤m∧Hid (w.heap.size≤g)∧Hid (0<R)∧Hid (R≤4*n)∧Hid (n<(R+1)*(R+1))∧Hid (IntAt wr g 0 (R:Int))∧Hid (Below w.heap.size w wr))
   case atStart=>exact ⟨w.heap.size,2^k,rfl,Nat.le_refl _,Nat.le_refl _,Nat.pow_pos (by decide),HR.out.1,HR.out.2,H2.out,HB4.out⟩
   case round =>
    obtain ⟨g,R,rfl,hRm,hg,hR0,hR4,hRn,hr,hb⟩:=hrel
    clear H1 HS HS2 HB2 HS3 HB3 H1b H2 HB4 HA
    go_wp2_with fail
    have hA:Below wr.heap.size wr (wr.alloc (.cells #[.bool false,.slice none 0 0] 177)):=(Below.refl _ _).alloc (Nat.le_refl _) _
    have hS:=(IntAt.new wr).slot
    have hxr:=HX.out.on hb.out
    refine (Quo_any hS (hxr.on hA) (hr.out.on hA) (by have:=hR0.out; omega) (okn_nat (k:=5*n) (by omega) HN.out)).mono ?_
    rintro e w5 ⟨rfl,h1,h2⟩
    have hq:((n:Nat):Int).tdiv ((R:Nat):Int)=((n/R:Nat):Int):=rfl
    rw [hq] at h1
    have B5:=hA.trans (h2.below (B:=wr.heap.size) (Nat.le_refl _) hA.size)
    have HB5:=Lib.hid B5
    have H5:=Lib.hid h1
    clear hA hS hxr h1 h2 B5 hq
    go_wp2_with fail
    have hdn:n/R≤n:=Nat.div_le_self _ _
    refine (Add_any H5.out.slot H5.out (hr.out.on HB5.out) (okn_nat (k:=5*n) (by omega) HN.out) (okn_nat (k:=5*n) (by have:=hR4.out; omega) HN.out)).mono ?_
    rintro e w6 ⟨rfl,h1,h2⟩
    rw [show ((n/R:Nat):Int)+((R:Nat):Int)=((n/R+R:Nat):Int) by omega] at h1
    have HB6:=Lib.hid (HB5.out.trans (h2.below (B:=wr.heap.size) (Nat.le_refl _) HB5.out.size))
    have H6:=Lib.hid h1
    clear h1 h2 hdn
    go_wp2_with fail
    refine (Rsh_any (k:=1) H6.out.slot H6.out (by decide)).mono ?_
    rintro e w7 ⟨rfl,h1,h2⟩
    rw [Nat.pow_one] at h1
    obtain ⟨S,hS⟩:∃ S,S=(n/R+R)/2:=⟨_,rfl⟩
    rw [← hS] at h1
    have HB7:=Lib.hid (HB6.out.trans (h2.below (B:=wr.heap.size) (Nat.le_refl _) HB6.out.size))
    have H7:=Lib.hid h1
    have HSS:=Lib.hid hS
    clear h1 h2 hS
    go_wp2_with fail
    refine (Cmp_any H7.out (hr.out.on HB7.out)).mono ?_
    rintro e w8 ⟨rfl,hb8⟩
    have HB8:=Lib.hid (HB7.out.trans (hb8.mono HB7.out.size))
    have H8:=Lib.hid (H7.out.on hb8)
    clear hb8
    rcases Nat.lt_or_ge S R with hlt | hge
    · rw [cmpI_lt hlt]
      go_wp2
      go_roundg S
      case measure=>exact Nat.lt_of_lt_of_le hlt hRm
      case rel =>
       have e:=HSS.out
       refine ⟨wr.heap.size,S,rfl,Nat.le_refl _,hb.out.size,?_,?_,?_,H8.out,hb.out.trans (HB8.out.mono hb.out.size)⟩
       · rw [Hid,e]; exact newton_pos n R H0.out hR0.out (e▸hlt)
       · exact Nat.le_trans (Nat.le_of_lt hlt) hR4.out
       · rw [Hid,e]; exact newton_up n R hR0.out
    · have hend:R*R≤n:=newton_end n R hR0.out (HSS.out▸hge)
      have HE:=Lib.hid hend
      have hzz:Slot w8 b o 2:=(HZ.out.on hb.out).on HB8.out
      have HZ8:=Lib.hid hzz
      have HR8:=Lib.hid (hr.out.on HB8.out)
      have HT:=Lib.hid (hb.out.trans (HB8.out.mono hb.out.size))
      clear hend hzz
      rcases cmpI_ge hge with h9 | h9
      all_goals
       rw [h9]
       go_wp2_with fail
       refine (set_any HZ8.out HR8.out).mono ?_
       rintro e w9 ⟨rfl,h1,h2⟩
       have K1:=Lib.hid h1
       have K2:=Lib.hid ((Touch.of_below HT.out b o 2).trans h2)
       clear h1 h2
       go_wp2
       go_ret
       exact ⟨rfl,⟨R,HE.out,hRn.out,K1.out⟩,K2.out⟩
end Go.Proofs.YthkpghhoffihmaaGreatDoor
end
