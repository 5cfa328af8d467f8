/- EyB, EyC, EyD, EyE, MayP, Rs4, Pts, Rs7, EyF, MoA, MoC, EqM, MkA, GsB, L4, CiA, CiB, GsD, Ops, CiC, CiD, CiE, MtB, SpA, Yd, MtA, MtD, MtE, G2, MtH, SpB, MtI, MtM, SpC, MtK, MwN, MwB, SpD, SpE, SpF, SpG, SpH, SpI, EqT, SpK, SpL. -/
import Derived.ChangeKeysEq
import Derived.Test.YtdiemgedlfnlmaaGreatPk10
set_option linter.unnecessarySimpa false
set_option linter.unusedVariables false
set_option linter.unusedSimpArgs false
section
namespace Go.Proofs.YtdiemgedlfnlmaaGreat.Y
open Go Go.RowKit
set_option maxRecDepth 100000
abbrev lsX (l:List Lf):List Lf:=l
def BY (n:Int) (w:World) (g:Pl):Prop:=(∀ c,g.F c↔c=g.b)∧Byt w (.slice (some ⟨g.b,0,none⟩) (led n.natAbs).length (led n.natAbs).length) (led n.natAbs).reverse
theorem by_stable (n:Int):Stable (BY n) :=
 ⟨fun w g ⟨h,k⟩ c hc=>by rw [(h c).1 hc]; exact k.open_.2.2.1,fun w w' g ⟨h,k⟩ hb=>⟨h,k.on hb⟩,
  fun w w' g b o m n ⟨h,k⟩ hs ht hne=>⟨h,by
   obtain ⟨h0,b',cap,cs,t,fr,h1,h2,h3⟩:=k
   have hb:g.b=b':=by injection h1 with h1 _ _; cases Option.some.inj h1; rfl
   subst hb
   exact ⟨h0,g.b,cap,cs,t,fr,h1,by rw [ht.block g.b (heap_some_lt h2) fun e=>hne ((h b).2 e.symm)]; exact h2,h3⟩⟩⟩
def bytT (n:Int):Thing:=thing (BY n) (by_stable n)
theorem extE_s (β:Env) (n a b:Nat) (g:Pl):(SV.one (.c (.b (.s n 0 a b)))).den (extE β n [g])=.slice (some ⟨g.b,0,none⟩) a b:=by
 have:=extE_in (β:=β) (n:=n) (i:=0) (xs:=[g]) rfl
 rw [Nat.add_zero] at this
 simp only [SV.den,SC.den,Lf.den,Lf0.den,this]
def nBytes {n:Int} (hn:sz n≤KB):Ev Tryz.prog:=dyn1 fun k m=>.call 285 Tryz.call285 (fun β=>#[.pointer ((β k).v 0)]) [(k,(intT n).ob)] m (.one (.c (.b (.s m 0 (led n.natAbs).length (led n.natAbs).length)))) [bytT n] (fun β w h=>by
 obtain ⟨a,ha,ka⟩:=needI (n:=n) (k:=k) h (by simp)
 simp only [ha.1]
 refine (Bytes_at ka (okn_sz hn)).mono fun e w' ⟨g,he,h1,h2,h3⟩=>⟨[newPl g],fun x hx c hc=>?_,by rw [he,extE_s]; rfl,⟨⟨fun _=>Iff.rfl,h2⟩,trivial⟩,h3⟩
 obtain rfl:=List.mem_singleton.1 hx
 rw [((newPl_one g).1 c).1 hc]
 exact .inl h1)
def slOf:SV→Nat
 | .one (.c (.b (.s k _ _ _)))=>k
 | _=>0
def rdStr (d t:Nat) (n:Int) (k:Nat):Ev Tryz.prog:=.rd d (.convert 245 9 (.tmp t)) (fun β=>[.slice (some ⟨(β k).b,0,none⟩) (led n.natAbs).length (led n.natAbs).length]) [(k,(bytT n).ob)] 0 (.one (.c (.b (.v (.string (mag n.natAbs)))))) [] (fun β w h ρ o ho hx=>by
 have h1:BY n w (β k):=h (k,(bytT n).ob) (by simp)
 have h2:ρ (.tmp t)=.slice (some ⟨(β k).b,0,none⟩) (led n.natAbs).length (led n.natAbs).length:=by simpa [Op.operands] using hx
 refine ⟨[],w,(fun _ h=>by cases h),?_,trivial,Below.refl _ _⟩
 unfold execOp
 rw [ho]
 simp only [h2]
 have h3:=string_of_byt h1.2
 simp [go_sem,h3]
 rfl)
def dStr (n:Int):Ev Tryz.prog:=.dyn (fun o _ _=>match o.op with
 | .convert a b (.tmp _)=>Nat.beq a 245&&Nat.beq b 9
 | _=>false) fun o xs _=>match o.op with
 | .convert _ _ (.tmp t)=>lit (slOf (xs.getD 0 undefS)) fun k=>rdStr (o.dst.getD 0) t n k
 | _=>.eqv 0 undef undef rfl
theorem frac_ok {x:Rat} (hx:Sz KB x) (β:Env) (w:World) (hh:∀ (k:Nat) (t:Thing),[ratM x][k]?=some t→t.D w (β k)) :
  Calls Tryz.prog 151 (([rV 0]:List SV).map (SV.den β)).toArray w fun e w'=>∃ xs:List Pl,freshS β w 1 xs∧e=.returned ((SV.tup [.a [.b (.v (.bool (ansB x))),.b (.v (.string (ansS x))),.b (.v (.bool false)),.b (.v (.string (ansD x)))],.c (.b (.v (.int .i64 (ansK x))))]).den (extE β 1 xs))∧newHold w' [] xs∧Below w.heap.size w w':=by
 cases h1:decide (1024<sz x.num) with
 | true =>
  have hf:¬ Fit x:=fun h=>by have:=of_decide_eq_true h1; have:=h.1; unfold sz at *; omega
  rw [show ansB x=false from if_neg hf,show ansS x=⟨#[]⟩ from if_neg hf,show ansD x=⟨#[]⟩ from if_neg hf,show ansK x=4 from if_neg hf]
  exact spec_auto (obs:=[ratM x]) (Ns:=[(5,10)]) (m:=400) (evs:=[(sRat x).e,nNum x,nBytes (n:=x.num) (Nat.le_trans hx.1 (by decide)),nDenom x,nBytes (n:=(x.den:Int)) (Nat.le_trans hx.2 (by decide)),.eqv 16 (.bool (decide ((1024:Int)<((led x.num.natAbs).length:Int)))) (.bool true) (led_gt h1)]) Tryz.func151 hmA (fun β=>by kernel_rfl) (by kernel_rfl) β w hh
 | false=>cases h2:decide (1024<sz (x.den:Int)) with
 | true =>
  have hf:¬ Fit x:=fun h=>by have:=of_decide_eq_true h2; have:=h.2; unfold sz at *; rw [Int.natAbs_natCast] at *; omega
  rw [show ansB x=false from if_neg hf,show ansS x=⟨#[]⟩ from if_neg hf,show ansD x=⟨#[]⟩ from if_neg hf,show ansK x=4 from if_neg hf]
  exact spec_auto (obs:=[ratM x]) (Ns:=[(5,10)]) (m:=400) (evs:=[(sRat x).e,nNum x,nBytes (n:=x.num) (Nat.le_trans hx.1 (by decide)),nDenom x,nBytes (n:=(x.den:Int)) (Nat.le_trans hx.2 (by decide)),.eqv 16 (.bool (decide ((1024:Int)<((led x.num.natAbs).length:Int)))) (.bool false) (led_gt h1),.eqv 20 (.bool (decide ((1024:Int)<((led (x.den:Int).natAbs).length:Int)))) (.bool true) (led_gt h2)]) Tryz.func151 hmA (fun β=>by kernel_rfl) (by kernel_rfl) β w hh
 | false =>
  have hf:Fit x:=⟨by have:=of_decide_eq_false h1; unfold sz at *; omega,by have:=of_decide_eq_false h2; unfold sz at *; rw [Int.natAbs_natCast] at *; omega⟩
  rw [show ansB x=decide (x.num<0) from if_pos hf,show ansS x=mag x.num.natAbs from if_pos hf,show ansD x=mag (x.den:Int).natAbs from if_pos hf,show ansK x=0 from if_pos hf]
  exact spec_auto (obs:=[ratM x]) (Ns:=[(5,10)]) (m:=400) (evs:=[(sRat x).e,nNum x,nBytes (n:=x.num) (Nat.le_trans hx.1 (by decide)),nDenom x,nBytes (n:=(x.den:Int)) (Nat.le_trans hx.2 (by decide)),.eqv 16 (.bool (decide ((1024:Int)<((led x.num.natAbs).length:Int)))) (.bool false) (led_gt h1),.eqv 20 (.bool (decide ((1024:Int)<((led (x.den:Int).natAbs).length:Int)))) (.bool false) (led_gt h2),nSign (x:=x) rfl,.eqv 25 (.bool (decide (x.num.sign<0))) (.bool (decide (x.num<0))) sign_lt,dStr x.num,dStr (x.den:Int)]) Tryz.func151 hmA (fun β=>by kernel_rfl) (by kernel_rfl) β w hh
noncomputable def sFrac {x:Rat} (hx:Sz KB x):Spec Tryz.prog :=
 ⟨151,Tryz.call151,[rV 0],[ratM x],(SV.tup [.a [.b (.v (.bool (ansB x))),.b (.v (.string (ansS x))),.b (.v (.bool false)),.b (.v (.string (ansD x)))],.c (.b (.v (.int .i64 (ansK x))))]),[],frac_ok hx,by kernel_rfl⟩
def AN (w:World) (g:Pl):Prop:=∀ c,g.F c→c<w.heap.size
theorem an_stable:Stable AN :=
 ⟨fun w g h=>h,fun w w' g h hb c hc=>Nat.lt_of_lt_of_le (h c hc) hb.size,fun w w' g b o m n h hs ht hne c hc=>Nat.lt_of_lt_of_le (h c hc) (ht.below (B:=0) (Nat.zero_le _) (Nat.zero_le _)).size⟩
def anyT:Thing:=⟨AN,an_stable,0,AN,an_stable,fun _ _ h=>h,true,fun _ _ _ h=>h.elim,true,fun _ _ _ h=>h.elim⟩
theorem an_of {D:World→Pl→Prop} (st:Stable D) {w:World} {g:Pl} (h:D w g):AN w g:=st.lt w g h
def exFormed (b:Bool) (s:ByteArray) (r:Bool) (hr:r=true↔FormedB b s):Ev Tryz.prog:=.ret 365 Tryz.call365 #[.agg #[.bool b,.string s]] _ (fun w=>exformed_any b s r hr)
def exWhole (b:Bool) (s:ByteArray) (hs:s.size≤4294967296) (x:Int) (hx:numOf b s=x):Ev Tryz.prog:=dyn1 fun _ n=>.call 366 Tryz.call366 (fun _=>#[.agg #[.bool b,.string s]]) [] n (.one (.c (.b (.z n 0)))) [intT x] (fun β w _=>one_int (by rw [← hx]; exact exwhole_any b s hs) β n _)
theorem ratNo_ok {b c:Bool} {s t:ByteArray} (h:¬ IsFrac (rawV b c s t)) (β:Env) (w:World) (hh:∀ (k:Nat) (t:Thing),([]:List Thing)[k]?=some t→t.D w (β k)):Calls Tryz.prog 318 (([.one (.a [.b (.v (.bool b)),.b (.v (.string s)),.b (.v (.bool c)),.b (.v (.string t))])]:List SV).map (SV.den β)).toArray w fun e w'=>∃ xs:List Pl,freshS β w 0 xs∧e=.returned ((SV.one (.c (.b (.v (.pointer none))))).den (extE β ([]:List Thing).length xs))∧newHold w' [] xs∧Below w.heap.size w w':=by
 obtain ⟨r1,h1⟩:=formedB_dec b s
 obtain ⟨r2,h2⟩:=formedB_dec c t
 cases r1 with
 | false=>exact spec_ok (args:=[.one (.a [.b (.v (.bool b)),.b (.v (.string s)),.b (.v (.bool c)),.b (.v (.string t))])]) (obs:=[]) (idx:=[]) (Ns:=[]) (m:=400) (evs:=[exFormed b s false h1]) Tryz.func318 hmA (fun β=>by kernel_rfl) (by kernel_rfl) β w hh
 | true=>cases r2 with
 | false=>exact spec_ok (args:=[.one (.a [.b (.v (.bool b)),.b (.v (.string s)),.b (.v (.bool c)),.b (.v (.string t))])]) (obs:=[]) (idx:=[]) (Ns:=[]) (m:=400) (evs:=[exFormed b s true h1,exFormed c t false h2]) Tryz.func318 hmA (fun β=>by kernel_rfl) (by kernel_rfl) β w hh
 | true=>cases c with
 | true=>exact spec_ok (args:=[.one (.a [.b (.v (.bool b)),.b (.v (.string s)),.b (.v (.bool true)),.b (.v (.string t))])]) (obs:=[]) (idx:=[]) (Ns:=[]) (m:=400) (evs:=[exFormed b s true h1,exFormed true t true h2]) Tryz.func318 hmA (fun β=>by kernel_rfl) (by kernel_rfl) β w hh
 | false=>cases h4:decide (t.size=0) with
 | true=>exact spec_ok (args:=[.one (.a [.b (.v (.bool b)),.b (.v (.string s)),.b (.v (.bool false)),.b (.v (.string t))])]) (obs:=[]) (idx:=[]) (Ns:=[]) (m:=400) (evs:=[exFormed b s true h1,exFormed false t true h2,.eqv 25 (.bool (t.toList==(⟨#[]⟩:ByteArray).toList)) (.bool true) (eq_empty h4)]) Tryz.func318 hmA (fun β=>by kernel_rfl) (by kernel_rfl) β w hh
 | false=>cases h5:decide (1024<s.size) with
 | true=>exact spec_ok (args:=[.one (.a [.b (.v (.bool b)),.b (.v (.string s)),.b (.v (.bool false)),.b (.v (.string t))])]) (obs:=[]) (idx:=[]) (Ns:=[]) (m:=400) (evs:=[exFormed b s true h1,exFormed false t true h2,.eqv 25 (.bool (t.toList==(⟨#[]⟩:ByteArray).toList)) (.bool false) (eq_empty h4),.eqv 32 (.bool (decide ((1024:Int)<(s.size:Int)))) (.bool true) (len_gt h5)]) Tryz.func318 hmA (fun β=>by kernel_rfl) (by kernel_rfl) β w hh
 | false=>cases h6:decide (1024<t.size) with
 | true=>exact spec_ok (args:=[.one (.a [.b (.v (.bool b)),.b (.v (.string s)),.b (.v (.bool false)),.b (.v (.string t))])]) (obs:=[]) (idx:=[]) (Ns:=[]) (m:=400) (evs:=[exFormed b s true h1,exFormed false t true h2,.eqv 25 (.bool (t.toList==(⟨#[]⟩:ByteArray).toList)) (.bool false) (eq_empty h4),.eqv 32 (.bool (decide ((1024:Int)<(s.size:Int)))) (.bool false) (len_gt h5),.eqv 39 (.bool (decide ((1024:Int)<(t.size:Int)))) (.bool true) (len_gt h6)]) Tryz.func318 hmA (fun β=>by kernel_rfl) (by kernel_rfl) β w hh
 | false =>
  obtain ⟨n,e1⟩:∃ n,numOf b s=n:=⟨_,rfl⟩
  obtain ⟨d,e2⟩:∃ d,numOf false t=d:=⟨_,rfl⟩
  have l1:s.size≤1024:=by have:=of_decide_eq_false h5; omega
  have l2:t.size≤1024:=by have:=of_decide_eq_false h6; omega
  have l0:=of_decide_eq_false h4
  obtain ⟨f1,f2⟩:=formed_num (h1.1 rfl)
  obtain ⟨f3,f4⟩:=formed_num (h2.1 rfl)
  rw [e1] at f1 f2
  rw [e2] at f3 f4
  have z1:s.size≤4294967296:=by omega
  have z2:t.size≤4294967296:=by omega
  have h0:d≠0:=by
   rintro rfl
   have:sz 0=0:=Nat.le_zero.1 (sz_le.2 (by decide))
   unfold sz at this
   rw [f4] at this
   exact l0 this
  have k1:sz n≤KB:=by unfold sz; rw [f2]; exact Nat.le_trans l1 (by decide)
  have k2:sz d≤KB:=by unfold sz; rw [f4]; exact Nat.le_trans l2 (by decide)
  cases h7:decide ((Rat.divInt n d).num=n) with
  | false=>exact spec_ok (args:=[.one (.a [.b (.v (.bool b)),.b (.v (.string s)),.b (.v (.bool false)),.b (.v (.string t))])]) (obs:=[]) (idx:=[]) (Ns:=[]) (m:=400) (evs:=[exFormed b s true h1,exFormed false t true h2,.eqv 25 (.bool (t.toList==(⟨#[]⟩:ByteArray).toList)) (.bool false) (eq_empty h4),.eqv 32 (.bool (decide ((1024:Int)<(s.size:Int)))) (.bool false) (len_gt h5),.eqv 39 (.bool (decide ((1024:Int)<(t.size:Int)))) (.bool false) (len_gt h6),exWhole b s z1 n e1,exWhole false t z2 d e2,mkR,fSetFrac h0 k1 k2,nNum (Rat.divInt n d),nIntCmp (a:=(Rat.divInt n d).num) (b:=n) rfl,.eqv 55 (.bool (cmpI (Rat.divInt n d).num n != 0)) (.bool true) (cmp_ne h7)]) Tryz.func318 hmA (fun β=>by kernel_rfl) (by kernel_rfl) β w hh
  | true=>cases h8:decide (((Rat.divInt n d).den:Int)=d) with
  | false=>exact spec_ok (args:=[.one (.a [.b (.v (.bool b)),.b (.v (.string s)),.b (.v (.bool false)),.b (.v (.string t))])]) (obs:=[]) (idx:=[]) (Ns:=[]) (m:=400) (evs:=[exFormed b s true h1,exFormed false t true h2,.eqv 25 (.bool (t.toList==(⟨#[]⟩:ByteArray).toList)) (.bool false) (eq_empty h4),.eqv 32 (.bool (decide ((1024:Int)<(s.size:Int)))) (.bool false) (len_gt h5),.eqv 39 (.bool (decide ((1024:Int)<(t.size:Int)))) (.bool false) (len_gt h6),exWhole b s z1 n e1,exWhole false t z2 d e2,mkR,fSetFrac h0 k1 k2,nNum (Rat.divInt n d),nIntCmp (a:=(Rat.divInt n d).num) (b:=n) rfl,.eqv 55 (.bool (cmpI (Rat.divInt n d).num n != 0)) (.bool false) (cmp_ne h7),nDenom (Rat.divInt n d),nIntCmp (a:=((Rat.divInt n d).den:Int)) (b:=d) rfl,.eqv 61 (.bool (cmpI ((Rat.divInt n d).den:Int) d != 0)) (.bool true) (cmp_ne h8)]) Tryz.func318 hmA (fun β=>by kernel_rfl) (by kernel_rfl) β w hh
  | true =>
   refine absurd ?_ h
   refine isFrac_doc.2 ⟨⟨l1,l2⟩,h1.1 rfl,h2.1 rfl,?_,?_⟩
   · rw [e2,← of_decide_eq_true h8]
     exact Int.natCast_pos.2 (Rat.divInt n d).den_pos
   · rw [e1,e2]
     have:=(Rat.divInt n d).reduced
     rw [of_decide_eq_true h7] at this
     have h9:(Rat.divInt n d).den=d.natAbs:=by have:=of_decide_eq_true h8; omega
     rw [h9] at this
     exact this
def sRatNo {b c:Bool} {s t:ByteArray} (h:¬ IsFrac (rawV b c s t)):Spec Tryz.prog :=
 ⟨318,Tryz.call318,[.one (.a [.b (.v (.bool b)),.b (.v (.string s)),.b (.v (.bool c)),.b (.v (.string t))])],[],(SV.one (.c (.b (.v (.pointer none))))),[],ratNo_ok h,by kernel_rfl⟩
theorem ratIn_ok {x:Rat} (hx:Fit x) (β:Env) (w:World) (hh:∀ (k:Nat) (t:Thing),([]:List Thing)[k]?=some t→t.D w (β k)):Calls Tryz.prog 318 (([.one (.a [.b (.v (.bool (decide (x.num<0)))),.b (.v (.string (mag x.num.natAbs))),.b (.v (.bool false)),.b (.v (.string (mag x.den)))])]:List SV).map (SV.den β)).toArray w fun e w'=>∃ xs:List Pl,freshS β w 0 xs∧e=.returned ((SV.one (.c (.b (.z 0 0)))).den (extE β ([]:List Thing).length xs))∧newHold w' [ratT x] xs∧Below w.heap.size w w':=by
 obtain ⟨n,en⟩:∃ n,x.num=n:=⟨_,rfl⟩
 obtain ⟨d,ed⟩:∃ d:Int,(x.den:Int)=d:=⟨_,rfl⟩
 have hxe:x=Rat.divInt n d:=by rw [← en,← ed,Rat.num_divInt_den]
 obtain ⟨b,eb⟩:∃ b,decide (x.num<0)=b:=⟨_,rfl⟩
 obtain ⟨s,es⟩:∃ s,mag x.num.natAbs=s:=⟨_,rfl⟩
 obtain ⟨t,et⟩:∃ t,mag x.den=t:=⟨_,rfl⟩
 have e1:numOf b s=n:=by rw [← eb,← es,← en]; exact numOf_mag x.num
 have e2:numOf false t=d:=by
  have:=numOf_mag (x.den:Int)
  rw [show decide ((x.den:Int)<0)=false by simp,Int.natAbs_natCast] at this
  rw [← et,← ed]; exact this
 obtain ⟨⟨l1,l2⟩,q1,q2,q3,_⟩:=isFrac_doc.1 (fitF x hx)
 rw [eb,es] at q1
 rw [et] at q2 q3
 rw [es] at l1
 rw [et] at l2
 rw [e2] at q3
 have h1:true=true↔FormedB b s:=iff_true_of q1
 have h2:true=true↔FormedB false t:=iff_true_of q2
 have h4:decide (t.size=0)=false:=decide_eq_false fun h=>by
  obtain rfl:=empty_data h
  rw [show numOf false ⟨#[]⟩=0 from rfl] at e2
  omega
 have h5:decide (1024<s.size)=false:=decide_eq_false (by omega)
 have h6:decide (1024<t.size)=false:=decide_eq_false (by omega)
 have z1:s.size≤4294967296:=by omega
 have z2:t.size≤4294967296:=by omega
 have h0:d≠0:=by omega
 have k1:sz n≤KB:=by rw [← en]; unfold sz; rw [es]; exact Nat.le_trans l1 (by decide)
 have k2:sz d≤KB:=by rw [← ed]; unfold sz; rw [Int.natAbs_natCast,et]; exact Nat.le_trans l2 (by decide)
 have h7:decide ((Rat.divInt n d).num=n)=true:=decide_eq_true (by rw [← hxe]; exact en)
 have h8:decide (((Rat.divInt n d).den:Int)=d)=true:=decide_eq_true (by rw [← hxe]; exact ed)
 rw [eb,es,et]
 clear eb es et
 subst hxe
 exact spec_ok (args:=[.one (.a [.b (.v (.bool b)),.b (.v (.string s)),.b (.v (.bool false)),.b (.v (.string t))])]) (obs:=[]) (idx:=[4]) (Ns:=[]) (m:=400) (evs:=[exFormed b s true h1,exFormed false t true h2,.eqv 25 (.bool (t.toList==(⟨#[]⟩:ByteArray).toList)) (.bool false) (eq_empty h4),.eqv 32 (.bool (decide ((1024:Int)<(s.size:Int)))) (.bool false) (len_gt h5),.eqv 39 (.bool (decide ((1024:Int)<(t.size:Int)))) (.bool false) (len_gt h6),exWhole b s z1 n e1,exWhole false t z2 d e2,mkR,fSetFrac h0 k1 k2,nNum (Rat.divInt n d),nIntCmp (a:=(Rat.divInt n d).num) (b:=n) rfl,.eqv 55 (.bool (cmpI (Rat.divInt n d).num n != 0)) (.bool false) (cmp_ne h7),nDenom (Rat.divInt n d),nIntCmp (a:=((Rat.divInt n d).den:Int)) (b:=d) rfl,.eqv 61 (.bool (cmpI ((Rat.divInt n d).den:Int) d != 0)) (.bool false) (cmp_ne h8)]) Tryz.func318 hmA (fun β=>by kernel_rfl) (by kernel_rfl) β w hh
def sRatIn {x:Rat} (hx:Fit x):Spec Tryz.prog :=
 ⟨318,Tryz.call318,[.one (.a [.b (.v (.bool (decide (x.num<0)))),.b (.v (.string (mag x.num.natAbs))),.b (.v (.bool false)),.b (.v (.string (mag x.den)))])],[],(.one (.c (.b (.z 0 0)))),[ratT x],ratIn_ok hx,by kernel_rfl⟩
def rdNe (d t:Nat) (x:Rat) (k:Nat):Ev Tryz.prog:=.rd d (.binOp .neq 149 (.tmp t) (.const (.pointer none)) 149) (fun β=>[.pointer ((β k).v 0),.pointer none]) [(k,(ratT x).ob)] 0 (.one (.c (.b (.v (.bool true))))) [] (fun β w h ρ o ho hx=>by
 obtain ⟨a,ha,ka⟩:=needP (x:=x) (k:=k) h (by simp)
 have h2:ρ (.tmp t)=.pointer (some ⟨a,0,none⟩)∧ρ (.const (.pointer none))=.pointer none:=by
  rw [ha.1] at hx
  simpa [Op.operands] using hx
 refine ⟨[],w,(fun _ h=>by cases h),?_,trivial,Below.refl _ _⟩
 unfold execOp
 rw [ho]
 simp only [h2.1,h2.2]
 kernel_rfl)
def dNe (x:Rat):Ev Tryz.prog:=.dyn (fun o _ _=>match o.op with
 | .binOp .neq a (.tmp _) (.const (.pointer none)) _=>Nat.beq a 149
 | _=>false) fun o xs _=>match o.op with
 | .binOp _ _ (.tmp t) _ _=>lit (ptOf (xs.getD 0 undefS)) fun k=>rdNe (o.dst.getD 0) t x k
 | _=>.eqv 0 undef undef rfl
def fpC (a:Fp):List Lf:=lsX a.C
def ofT:Fp→Fp→List Thing
 | .ok x _,.ok y _=>[ratT x,ratT y]
 | _,_=>[anyT,anyT]
theorem sOf_ok (a b:Fp) (β:Env) (w:World) (hh:∀ (k:Nat) (t:Thing),([]:List Thing)[k]?=some t→t.D w (β k)) :
  Calls Tryz.prog 239 (([.one (.a (fpC a++fpC b))]:List SV).map (SV.den β)).toArray w fun e w'=>∃ xs:List Pl,freshS β w 0 xs∧e=.returned ((SV.tup [nA 0,.c (.b (.v (.bool (a.B&&b.B))))]).den (extE β 0 xs))∧newHold w' (ofT a b) xs∧Below w.heap.size w w':=by
 cases a with
 | ok x hx=>cases b with
  | ok y hy=>exact spec_auto (obs:=[]) (evs:=[(sRatIn hx).e,(sRatIn hy).e,dNe x,dNe y]) (Ns:=[]) (m:=400) Tryz.func239 hmA (fun β=>by kernel_rfl) (by kernel_rfl) β w hh
  | no b' c s t h hs ht =>
   refine (spec_auto (args:=[.one (.a (fpC (.ok x hx)++fpC (.no b' c s t h hs ht)))]) (obs:=[]) (res:=SV.tup [.a [.b (.z 0 0),.b (.v (.pointer none))],.c (.b (.v (.bool false)))]) (news:=[ratT x]) (evs:=[(sRatIn hx).e,(sRatNo h).e,dNe x]) (Ns:=[]) (m:=400) Tryz.func239 hmA (fun β=>by kernel_rfl) (by kernel_rfl) β w hh).mono fun e w' ⟨xs,h1,he,h2,h3⟩=>?_
   match xs,h1,he,h2 with
   | [p],h1,he,h2=>exact ⟨[p,nilPl],fun x hx c hc=>by
     rcases List.mem_cons.1 hx with rfl | hx
     · exact h1 _ (by simp) c hc
     · obtain rfl:=List.mem_singleton.1 hx
       exact hc.elim,he,⟨an_of (pr_stable x) h2.1,fun _ h=>h.elim,trivial⟩,h3⟩
 | no b' c s t h hs ht=>cases b with
  | ok y hy =>
   refine (spec_auto (args:=[.one (.a (fpC (.no b' c s t h hs ht)++fpC (.ok y hy)))]) (obs:=[]) (res:=SV.tup [.a [.b (.v (.pointer none)),.b (.z 0 0)],.c (.b (.v (.bool false)))]) (news:=[ratT y]) (evs:=[(sRatNo h).e,(sRatIn hy).e]) (Ns:=[]) (m:=400) Tryz.func239 hmA (fun β=>by kernel_rfl) (by kernel_rfl) β w hh).mono fun e w' ⟨xs,h1,he,h2,h3⟩=>?_
   match xs,h1,he,h2 with
   | [p],h1,he,h2=>exact ⟨[nilPl,p],fun x hx c hc=>by
     rcases List.mem_cons.1 hx with rfl | hx
     · exact hc.elim
     · obtain rfl:=List.mem_singleton.1 hx
       exact h1 _ (by simp) c hc,he,⟨fun _ h=>h.elim,an_of (pr_stable y) h2.1,trivial⟩,h3⟩
  | no b'' c' s' t' h' hs' ht' =>
   refine (spec_auto (args:=[.one (.a (fpC (.no b' c s t h hs ht)++fpC (.no b'' c' s' t' h' hs' ht')))]) (obs:=[]) (res:=SV.tup [.a [.b (.v (.pointer none)),.b (.v (.pointer none))],.c (.b (.v (.bool false)))]) (news:=[]) (evs:=[(sRatNo h).e,(sRatNo h').e]) (Ns:=[]) (m:=400) Tryz.func239 hmA (fun β=>by kernel_rfl) (by kernel_rfl) β w hh).mono fun e w' ⟨xs,h1,he,h2,h3⟩=>?_
   match xs,h1,he,h2 with
   | [],h1,he,h2=>exact ⟨[nilPl,nilPl],fun x hx c hc=>by
     rcases List.mem_cons.1 hx with rfl | hx
     · exact hc.elim
     · obtain rfl:=List.mem_singleton.1 hx
       exact hc.elim,he,⟨fun _ h=>h.elim,fun _ h=>h.elim,trivial⟩,h3⟩
def sOf (a b:Fp):Spec Tryz.prog :=
 ⟨239,Tryz.call239,[.one (.a (fpC a++fpC b))],[],.tup [nA 0,.c (.b (.v (.bool (a.B&&b.B))))],ofT a b,sOf_ok a b,by cases a<;>cases b<;>kernel_rfl⟩
def sInt (n m:Int) (hn : -9223372036854775808≤n∧n≤9223372036854775807) (hm : -9223372036854775808≤m∧m≤9223372036854775807):Spec Tryz.prog :=
 Spec.auto Tryz.call189 [.one (.c (.b (.v (.int .i64 n)))),.one (.c (.b (.v (.int .i64 m))))] [] (nV 0) (gT (gint n m))
  [nNew n 1 hn (by decide) (by decide),nNew m 1 hm (by decide) (by decide)] [] 400 Tryz.func189 hmA (by kernel_rfl) (fun β=>by kernel_rfl)
theorem told_ok {z:GQ} (hz:GSz KB z) (β:Env) (w:World) (hh:∀ (k:Nat) (t:Thing),(gM z)[k]?=some t→t.D w (β k)) :
  Calls Tryz.prog 212 (([nV 0]:List SV).map (SV.den β)).toArray w fun e w'=>∃ xs:List Pl,freshS β w 2 xs∧e=.returned ((SV.tup [.a (lsX (gaC z)),.c (.b (.v (.int .i64 (gaK z))))]).den (extE β 2 xs))∧newHold w' [] xs∧Below w.heap.size w w':=by
 by_cases h1:Fit z.re
 · by_cases h2:Fit z.im
   · rw [(ga_fit ⟨h1,h2⟩).1,(ga_fit ⟨h1,h2⟩).2]
     have e1:(ansK z.re != 0)=false:=by rw [(ansF_fit h1).2.2.2]; rfl
     have e2:(ansK z.im != 0)=false:=by rw [(ansF_fit h2).2.2.2]; rfl
     unfold gC
     rw [← (ansF_fit h1).1,← (ansF_fit h1).2.1,← (ansF_fit h1).2.2.1,← (ansF_fit h2).1,← (ansF_fit h2).2.1,← (ansF_fit h2).2.2.1]
     exact spec_auto (obs:=gM z) (evs:=[(sFrac hz.1).e,(sFrac hz.2).e,.eqv 21 (.bool (ansK z.re != 0)) (.bool false) (ansK_ne e1),.eqv 24 (.bool (ansK z.im != 0)) (.bool false) (ansK_ne e2)]) (Ns:=[]) (m:=400) Tryz.func212 hmA (fun β=>by kernel_rfl) (by kernel_rfl) β w hh
   · have hn:¬ FitG z:=fun h=>h2 h.2
     rw [(ga_not hn).1,(ga_not hn).2]
     have e1:(ansK z.re != 0)=false:=by rw [(ansF_fit h1).2.2.2]; rfl
     have e2:(ansK z.im != 0)=true:=by rw [show ansK z.im=4 from if_neg h2]; rfl
     exact spec_auto (obs:=gM z) (evs:=[(sFrac hz.1).e,(sFrac hz.2).e,.eqv 21 (.bool (ansK z.re != 0)) (.bool false) (ansK_ne e1),.eqv 24 (.bool (ansK z.im != 0)) (.bool true) (ansK_ne e2)]) (Ns:=[]) (m:=400) Tryz.func212 hmA (fun β=>by kernel_rfl) (by kernel_rfl) β w hh
 · have hn:¬ FitG z:=fun h=>h1 h.1
   rw [(ga_not hn).1,(ga_not hn).2]
   have e1:(ansK z.re != 0)=true:=by rw [show ansK z.re=4 from if_neg h1]; rfl
   exact spec_auto (obs:=gM z) (evs:=[(sFrac hz.1).e,(sFrac hz.2).e,.eqv 21 (.bool (ansK z.re != 0)) (.bool true) (ansK_ne e1)]) (Ns:=[]) (m:=400) Tryz.func212 hmA (fun β=>by kernel_rfl) (by kernel_rfl) β w hh
noncomputable def sTold {z:GQ} (hz:GSz KB z):Spec Tryz.prog :=
 ⟨212,Tryz.call212,[nV 0],gM z,.tup [.a (lsX (gaC z)),.c (.b (.v (.int .i64 (gaK z))))],[],told_ok hz,by kernel_rfl⟩
def pI:Pt→Bool
 | .inf=>true
 | .fin _=>false
def pG:Pt→GQ
 | .inf=>g0
 | .fin z=>z
def pL (k:Nat) (p:Pt):List Lf:=[.b (.v (.bool (pI p))),.b (.z k 0),.b (.z (k+1) 0)]
abbrev pV (k:Nat) (p:Pt):SV:=.one (.a (pL k p))
def pM (p:Pt):List Thing:=gM (pG p)
def sBy (p:Pt):Spec Tryz.prog :=
 ⟨165,Tryz.call165,[pV 0 p],pM p,.tup [nA 2,nA 4],gM (byA p)++gM (byB p),fun β w hh=>by
  cases p
  · exact spec_auto (obs:=pM .inf) (evs:=[(sInt 1 0 (by decide) (by decide)).e,(sInt 0 0 (by decide) (by decide)).e]) (Ns:=[(3,3)]) (m:=400) Tryz.func165 hmA (fun β=>by kernel_rfl) (by kernel_rfl) β w hh
  · rename_i z
    exact spec_auto (obs:=pM (.fin z)) (evs:=[(sInt 1 0 (by decide) (by decide)).e]) (Ns:=[(3,3)]) (m:=400) Tryz.func165 hmA (fun β=>by kernel_rfl) (by kernel_rfl) β w hh,by kernel_rfl⟩
def sAcross {p q:Pt} (hp:PSz KE p) (hq:PSz KE q):Spec Tryz.prog :=
 Spec.auto Tryz.call287 [pV 0 p,pV 2 q] (pM p++pM q) (nV 4) (gT (gacross p q))
  [(sBy p).e,(sBy q).e,
 (sMul ((byA_sz hp (by decide)).mono (by decide)) (byB_sz (p:=q) (by decide))).e,(sMul (byB_sz (p:=p) (by decide)) ((byA_sz hq (by decide)).mono (by decide))).e,
 (sSub (((byA_sz hp (by decide)).mul (byB_sz (k:=KE) (p:=q) (by decide))).mono (by decide)) (((byB_sz (k:=KE) (p:=p) (by decide)).mul (byA_sz hq (by decide))).mono (by decide))).e] [(3,7)] 800 Tryz.func287 hmA (by kernel_rfl) (fun β=>by kernel_rfl)
noncomputable def sToldP (p:Pt) (h:PSz KB p):Spec Tryz.prog :=
 ⟨199,Tryz.call199,[pV 0 p],pM p,.tup [.a (lsX (paC p)),.c (.b (.v (.int .i64 (paK p))))],[],fun β w hh=>by
  cases p
  · exact spec_auto (obs:=pM .inf) (evs:=[]) (Ns:=[]) (m:=400) Tryz.func199 hmA (fun β=>by kernel_rfl) (by kernel_rfl) β w hh
  · rename_i z
    exact spec_auto (obs:=pM (.fin z)) (evs:=[(sTold (z:=z) h).e]) (Ns:=[]) (m:=400) Tryz.func199 hmA (fun β=>by kernel_rfl) (by kernel_rfl) β w hh,by cases p<;>kernel_rfl⟩
theorem nilpair {P:Program} {f:FuncId} {args:Array Value} {w:World} {β:Env} {m:Nat} {r r':Env→Value}
  (h:Calls P f args w fun e w'=>∃ xs:List Pl,freshS β w m xs∧e=.returned (r (extE β m xs))∧newHold w' [] xs∧Below w.heap.size w w') (hr:r' (extE β m [nilPl,nilPl])=r (extE β m [])) :
  Calls P f args w fun e w'=>∃ xs:List Pl,freshS β w m xs∧e=.returned (r' (extE β m xs))∧newHold w' (gM g0) xs∧Below w.heap.size w w' :=
 h.mono fun e w' ⟨xs,h1,he,h2,h3⟩=>by
  match xs,h1,he,h2 with
  | [],h1,he,h2 =>
   have hn:OR0 0 w' nilPl:=nil_or (by decide) w'
   refine ⟨[nilPl,nilPl],fun x hx k hk=>?_,by rw [he,hr],⟨hn,hn,trivial⟩,h3⟩
   simp only [List.mem_cons,List.not_mem_nil,or_false] at hx
   rcases hx with rfl | rfl<;>exact hk.elim
def rL (x:R4):List Lf:=[.b (.v (.bool x.b)),.b (.v (.string x.s)),.b (.v (.bool x.c)),.b (.v (.string x.t))]
structure Fr where
 r:R4
 a:Fp
 e:fpC a=rL r
def eqEv (t:TypeId) (xs ys:Array Value) (r:Bool) (hg:Tryz.prog.eqGuardType Tryz.prog.depth t=false) (h:∀ w,(Op.equalIn 10000 t (.agg xs) (.agg ys)).run Tryz.prog w=.ok r w):Ev Tryz.prog :=
 .dyn (fun o _ _=>match o.op with
  | .binOp .eql t' _ _ _=>Nat.beq t' t
  | .binOp .neq t' _ _ _=>Nat.beq t' t
  | _=>false) fun o _ _=>match o.op with
  | .binOp .eql _ a b u=>.gen (o.dst.getD 0) (.binOp .eql t a b u) [.agg xs,.agg ys] (.bool r) (fun ρ o w ho hx=>by
    simp only [Op.operands,List.map_cons,List.map_nil,List.cons.injEq] at hx
    exact exec_eql hg (h w) a b ρ o ho hx.1 hx.2.1)
  | .binOp .neq _ a b u=>.gen (o.dst.getD 0) (.binOp .neq t a b u) [.agg xs,.agg ys] (.bool (!r)) (fun ρ o w ho hx=>by
    simp only [Op.operands,List.map_cons,List.map_nil,List.cons.injEq] at hx
    exact exec_neq hg (h w) a b ρ o ho hx.1 hx.2.1)
  | _=>.eqv 0 undef undef rfl
def eqEvP (i i':Bool) (x y x' y':R4) (r:Bool) (h:((i==i')&&((x.eq x'&&(y.eq y'&&true))&&true))=r):Ev Tryz.prog :=
 eqEv 39 #[.bool i,.bool x.b,.string x.s,.bool x.c,.string x.t,.bool y.b,.string y.s,.bool y.c,.string y.t] #[.bool i',.bool x'.b,.string x'.s,.bool x'.c,.string x'.t,.bool y'.b,.string y'.s,.bool y'.c,.string y'.t] r (by kernel_rfl) (fun w=>by rw [← h]; exact eqP 9995 i i' x y x' y')
def eqEvF (x x':R4) (r:Bool) (h:x.eq x'=r):Ev Tryz.prog :=
 eqEv 25 #[.bool x.b,.string x.s,.bool x.c,.string x.t] #[.bool x'.b,.string x'.s,.bool x'.c,.string x'.t] r (by kernel_rfl) (fun w=>by rw [← h]; exact eqF 9997 ..)
def spI:Pp→Bool
 | .fin ..=>false
 | _=>true
def spT:Pp→List Thing
 | .fin a b=>ofT a b
 | _=>gM g0
def sSpot (p:Pp):Spec Tryz.prog :=
 ⟨150,Tryz.call150,[.one (.a (lsX p.C))],[],.tup [.a [.b (.v (.bool (spI p))),.b (.z 0 0),.b (.z 1 0)],.c (.b (.v (.bool p.B)))],spT p,fun β w hh=>by
  rcases p with _ | ⟨a,b⟩ | ⟨x,y,h⟩
  · exact nilpair (r:=(SV.tup [.a [.b (.v (.bool true)),.b (.v (.pointer none)),.b (.v (.pointer none))],.c (.b (.v (.bool true)))]).den) (r':=(SV.tup [.a [.b (.v (.bool true)),.b (.z 0 0),.b (.z 1 0)],.c (.b (.v (.bool true)))]).den) (spec_auto (args:=[.one (.a (lsX Pp.inf.C))]) (obs:=[]) (res:=.tup [.a [.b (.v (.bool true)),.b (.v (.pointer none)),.b (.v (.pointer none))],.c (.b (.v (.bool true)))]) (news:=[]) (evs:=[]) (Ns:=[(2,2004005)]) (m:=400) Tryz.func150 hmA (fun β=>by kernel_rfl) (by kernel_rfl) β w hh) (by kernel_rfl)
  · cases a with
    | ok x hx=>cases b with
     | ok y hy=>exact spec_auto (obs:=[]) (evs:=[(sOf (.ok x hx) (.ok y hy)).e]) (Ns:=[(2,2004005)]) (m:=400) Tryz.func150 hmA (fun β=>by kernel_rfl) (by kernel_rfl) β w hh
     | no b2 c2 s2 t2 h2 u2 v2=>exact spec_auto (obs:=[]) (evs:=[(sOf (.ok x hx) (.no b2 c2 s2 t2 h2 u2 v2)).e]) (Ns:=[(2,2004005)]) (m:=400) Tryz.func150 hmA (fun β=>by kernel_rfl) (by kernel_rfl) β w hh
    | no b1 c1 s1 t1 h1 u1 v1=>cases b with
     | ok y hy=>exact spec_auto (obs:=[]) (evs:=[(sOf (.no b1 c1 s1 t1 h1 u1 v1) (.ok y hy)).e]) (Ns:=[(2,2004005)]) (m:=400) Tryz.func150 hmA (fun β=>by kernel_rfl) (by kernel_rfl) β w hh
     | no b2 c2 s2 t2 h2 u2 v2=>exact spec_auto (obs:=[]) (evs:=[(sOf (.no b1 c1 s1 t1 h1 u1 v1) (.no b2 c2 s2 t2 h2 u2 v2)).e]) (Ns:=[(2,2004005)]) (m:=400) Tryz.func150 hmA (fun β=>by kernel_rfl) (by kernel_rfl) β w hh
  · exact nilpair (r:=(SV.tup [.a [.b (.v (.bool true)),.b (.v (.pointer none)),.b (.v (.pointer none))],.c (.b (.v (.bool false)))]).den) (r':=(SV.tup [.a [.b (.v (.bool true)),.b (.z 0 0),.b (.z 1 0)],.c (.b (.v (.bool false)))]).den) (spec_auto (args:=[.one (.a (lsX (Pp.odd x y h).C))]) (obs:=[]) (res:=.tup [.a [.b (.v (.bool true)),.b (.v (.pointer none)),.b (.v (.pointer none))],.c (.b (.v (.bool false)))]) (news:=[]) (evs:=[eqEvP true true x y r40 r40 false (odd_ne h)]) (Ns:=[(2,2004005)]) (m:=400) Tryz.func150 hmA (fun β=>by kernel_rfl) (by kernel_rfl) β w hh) (by kernel_rfl),by
  rcases p with _ | ⟨_ | _,_ | _⟩ | _<;>kernel_rfl⟩
end Go.Proofs.YtdiemgedlfnlmaaGreat.Y
end
section
namespace Go.Proofs.YtdiemgedlfnlmaaGreat
open Go.Proofs.YtdiemgedlfnlmaaGreat.Y
open Go Go.RowKit
set_option maxRecDepth 100000
def Fp.mayE:Fp→Ev Tryz.prog
 | .ok x h=>eMayF x h
 | .no b c s t h hs ht=>eMay b c s t hs ht false ⟨fun e=>Bool.noConfusion e,fun e=>absurd e h⟩
def gMayE (a b:Fp):List (Ev Tryz.prog):=match a with
 | .ok ..=>[a.mayE,b.mayE]
 | .no ..=>[a.mayE]
def sGMay (a b:Fp):Y.Spec Tryz.prog :=
 Y.Spec.auto Tryz.call175 [.one (.a (a.C++b.C))] [] (.one (.c (.b (.v (.bool (a.B&&b.B)))))) []
  (gMayE a b) [] 400 Tryz.func175 hmA (by cases a<;>cases b<;>kernel_rfl) (fun β=>by cases a<;>cases b<;>kernel_rfl)
def sInfinity:Y.Spec Tryz.prog :=
 Y.Spec.auto Tryz.call147 [] [] (.one (.a (.b (.v (.bool true))::g0C))) [] [] [] 400 Tryz.func147 hmA (by kernel_rfl) (fun β=>by kernel_rfl)
def Pp.mayE:Pp→List (Ev Tryz.prog)
 | .inf=>[sInfinity.e]
 | .fin a b=>[(sGMay a b).e]
 | .odd x y h=>[sInfinity.e,eqEvP true true x y r40 r40 false (odd_ne h)]
def sPMay (p:Pp):Y.Spec Tryz.prog :=
 Y.Spec.auto Tryz.call37 [.one (.a p.C)] [] (.one (.c (.b (.v (.bool p.B))))) []
  p.mayE [(2,4)] 400 Tryz.func37 hmA (by rcases p with _ | ⟨_ | _,_ | _⟩ | _<;>kernel_rfl) (fun β=>by rcases p with _ | ⟨_ | _,_ | _⟩ | _<;>kernel_rfl)
theorem gres {z w:GQ} (h:z=w):SV.one (.a (gC z))=.one (.a (gC w)):=by rw [h]
theorem Sz.le {i k:Nat} {x:Rat} (h:Sz i x) (hk:Nat.ble i k=true:=by decide):Sz k x:=h.mono (Nat.le_of_ble_eq_true hk)
theorem gsub_eq (z w:GQ):gadd z (gneg w)=gsub z w:=by
 unfold gadd gneg gsub
 simp only [Rat.sub_eq_add_neg]
abbrev svG (z:GQ):SV:=.one (.a (gC z))
abbrev svF (x:Rat):SV:=.one (.a (fC x))
section
variable {z w:GQ} {x:Rat}
def sR4Neg (z:GQ):Y.Spec Tryz.prog:=Y.Spec.auto Tryz.call177 [svG z] [] (svG (gneg z)) [] [(sR3Neg z.re).e,(sR3Neg z.im).e] [(1,7)] 400 Tryz.func177 hmA (by kernel_rfl) (fun β=>by kernel_rfl)
def sR4Plus (hz:GSz KE z) (hw:GSz KE w):Y.Spec Tryz.prog:=Y.Spec.auto Tryz.call52 [svG z,svG w] [] (svG (gadd z w)) [] [(sR3Plus hz.1.le hw.1.le).e,(sR3Plus hz.2.le hw.2.le).e] [(1,11)] 400 Tryz.func52 hmA (by kernel_rfl) (fun β=>by kernel_rfl)
def sR4Minus (hz:GSz KE z) (hw:GSz KE w):Y.Spec Tryz.prog:=(Y.Spec.auto Tryz.call156 [svG z,svG w] [] (svG (gadd z (gneg w))) [] [(sR4Neg w).e,(sR4Plus hz hw.neg).e] [(1,4)] 400 Tryz.func156 hmA (by kernel_rfl) (fun β=>by kernel_rfl)).conv (svG (gsub z w)) (gres (gsub_eq z w))
def sR4Dot (hz:GSz KE z) (hw:GSz KE w):Y.Spec Tryz.prog:=Y.Spec.auto Tryz.call288 [svG z,svG w] [] (svF (z.re*w.re+z.im*w.im)) []
 [(sR3Times hz.1.le hw.1.le).e,(sR3Times hz.2.le hw.2.le).e,(sR3Plus (hz.1.mul hw.1).le (hz.2.mul hw.2).le).e] [(1,11)] 400 Tryz.func288 hmA (by kernel_rfl) (fun β=>by kernel_rfl)
def sR4Norm (hz:GSz KE z):Y.Spec Tryz.prog:=Y.Spec.auto Tryz.call155 [svG z] [] (svF (gnorm z)) [] [(sR4Dot hz hz).e] [] 400 Tryz.func155 hmA (by kernel_rfl) (fun β=>by kernel_rfl)
end
def sR4Int (n m:Int) (hn : -9223372036854775808≤n∧n≤9223372036854775807:=by decide) (hm : -9223372036854775808≤m∧m≤9223372036854775807:=by decide):Y.Spec Tryz.prog :=
 Y.Spec.auto Tryz.call49 [.one (.c (.b (.v (.int .i64 n)))),.one (.c (.b (.v (.int .i64 m))))] [] (svG (gint n m)) [] [(sR3Int n hn).e,(sR3Int m hm).e] [] 400 Tryz.func49 hmA (by kernel_rfl) (fun β=>by kernel_rfl)
def Fp.may3:Fp→Y.Spec Tryz.prog
 | .ok x h=>sR3May _ _ _ _ true (iff_true_of (fitF x h))
 | .no b c s t h hs ht=>sR3May b c s t false (iff_false_of h)
def may4E (a b:Fp):List (Ev Tryz.prog):=match a with
 | .ok ..=>[a.may3.e,b.may3.e]
 | .no ..=>[a.may3.e]
def sR4May (a b:Fp):Y.Spec Tryz.prog :=
 Y.Spec.auto Tryz.call39 [.one (.a (a.C++b.C))] [] (.one (.c (.b (.v (.bool (a.B&&b.B)))))) [] (may4E a b) [] 400 Tryz.func39 hmA (by cases a<;>cases b<;>kernel_rfl) (fun β=>by cases a<;>cases b<;>kernel_rfl)
def Fp.raw:Fp→R4
 | .ok x _=>⟨decide (x.num<0),mag x.num.natAbs,false,mag x.den⟩
 | .no b c s t _ _ _=>⟨b,s,c,t⟩
def Pp.rI:Pp→Bool
 | .fin ..=>false
 | _=>true
def Pp.rX:Pp→R4
 | .inf=>r40
 | .fin a _=>a.raw
 | .odd x _ _=>x
def Pp.rY:Pp→R4
 | .inf=>r40
 | .fin _ b=>b.raw
 | .odd _ y _=>y
def rawC (i:Bool) (x y:R4):List Lf:=.b (.v (.bool i))::(x.L++y.L)
theorem Pp.C_raw (p:Pp):p.C=rawC p.rI p.rX p.rY:=by rcases p with _ | ⟨_ | _,_ | _⟩ | _<;>rfl
def Y.Spec.as {P:Program} (S:Y.Spec P) (args:List SV) (res:SV) (ha:S.args=args) (hr:S.res=res):Y.Spec P :=
 ⟨S.f,S.en,args,S.obs,res,S.news,fun β w hh=>by subst ha; subst hr; exact S.ok β w hh,by subst ha; subst hr; exact S.closed⟩
def fR (x:Rat):R4:=⟨decide (x.num<0),mag x.num.natAbs,false,mag x.den⟩
def Pt.i:Pt→Bool
 | .inf=>true
 | .fin _=>false
def Pt.x:Pt→R4
 | .inf=>r40
 | .fin z=>fR z.re
def Pt.y:Pt→R4
 | .inf=>r40
 | .fin z=>fR z.im
abbrev svR (i:Bool) (x y:R4):SV:=.one (.a (rawC i x y))
abbrev svP (p:Pt):SV:=svR p.i p.x p.y
def FitP:Pt→Prop
 | .inf=>True
 | .fin z=>FitG z
theorem FitP.sz {p:Pt} (h:FitP p):PSz 1024 p:=by
 cases p
 · trivial
 · exact ⟨h.1.sz,h.2.sz⟩
def ppt:(p:Pt)→FitP p→Pp
 | .inf,_=>.inf
 | .fin z,h=>.fin (.ok z.re h.1) (.ok z.im h.2)
structure Rw where
 i:Bool
 x:R4
 y:R4
def Rw.ok (r:Rw):Prop:=(r.x.s.size≤maxLen∧r.x.t.size≤maxLen)∧r.y.s.size≤maxLen∧r.y.t.size≤maxLen
def Pt.w (p:Pt):Rw:=⟨p.i,p.x,p.y⟩
def Pp.w (p:Pp):Rw:=⟨p.rI,p.rX,p.rY⟩
theorem fp_of (x:R4) (h1:x.s.size≤maxLen) (h2:x.t.size≤maxLen):∃ a:Fp,a.raw=x:=by
 obtain ⟨b,s,c,t⟩:=x
 rcases fp_all b c s t with ⟨q,h,rfl,rfl,rfl,rfl⟩ | h
 · exact ⟨.ok q h,rfl⟩
 · exact ⟨.no b c s t h h1 h2,rfl⟩
theorem pp_of (r:Rw) (h:r.ok):∃ p:Pp,p.w=r:=by
 obtain ⟨i,x,y⟩:=r
 cases i
 · obtain ⟨a,rfl⟩:=fp_of x h.1.1 h.1.2
   obtain ⟨b,rfl⟩:=fp_of y h.2.1 h.2.2
   exact ⟨.fin a b,rfl⟩
 · by_cases h0:x=⟨false,⟨#[]⟩,false,⟨#[]⟩⟩∧y=⟨false,⟨#[]⟩,false,⟨#[]⟩⟩
   · obtain ⟨rfl,rfl⟩:=h0
     exact ⟨.inf,rfl⟩
   · exact ⟨.odd x y h0,rfl⟩
theorem Pp.good {p:Pp} (h:p.B=true):∃ q:Pt,∃ hq:FitP q,p=ppt q hq:=by
 rcases p with _ | ⟨⟨x,hx⟩ | _,⟨y,hy⟩ | _⟩ | _
 · exact ⟨.inf,trivial,rfl⟩
 · exact ⟨.fin ⟨x,y⟩,⟨hx,hy⟩,rfl⟩
 all_goals cases h
theorem ppt_w (p:Pt) (h:FitP p):(ppt p h).w=p.w:=by cases p<;>rfl
theorem fR_inj {x y:Rat} (h:fR x=fR y):x=y:=by
 injection h with h1 h2 h3 h4
 have hn:x.num.natAbs=y.num.natAbs:=mag_inj h2
 have hd:x.den=y.den:=mag_inj h4
 have hb:(x.num<0)=(y.num<0):=by simpa using h1
 refine Rat.ext ?_ hd
 by_cases h0:x.num<0
 · have:y.num<0:=by rw [← hb]; exact h0
   omega
 · have:¬ y.num<0:=by rw [← hb]; exact h0
   omega
theorem Pt.w_inj {p q:Pt} (h:p.w=q.w):p=q:=by
 cases p<;>cases q
 · rfl
 · injection h with h1; cases h1
 · injection h with h1; cases h1
 · rename_i z w
   injection h with _ h2 h3
   exact congrArg Pt.fin (GQ.ext2 (fR_inj h2) (fR_inj h3))
def rwB (i i':Bool) (x y x' y':R4):Bool:=(i==i')&&((x.eq x'&&(y.eq y'&&true))&&true)
theorem rwB_iff {i i':Bool} {x y x' y':R4}:rwB i i' x y x' y'=true↔i=i'∧x=x'∧y=y':=by
 unfold rwB
 simp only [Bool.and_true,Bool.and_eq_true,R4.eq_iff,beq_iff_eq]
def ptB (p q:Pt):Bool:=rwB p.i q.i p.x p.y q.x q.y
theorem ptB_iff {p q:Pt}:ptB p q=true↔p=q:=by
 unfold ptB
 rw [rwB_iff]
 constructor
 · rintro ⟨h1,h2,h3⟩
   exact Pt.w_inj (by unfold Pt.w; rw [h1,h2,h3])
 · rintro rfl; exact ⟨rfl,rfl,rfl⟩
open Classical in
noncomputable def paI (p:Pt):Bool:=if FitP p then p.i else false
open Classical in
noncomputable def paX (p:Pt):R4:=if FitP p then p.x else r40
open Classical in
noncomputable def paY (p:Pt):R4:=if FitP p then p.y else r40
theorem pa_fit {p:Pt} (h:FitP p):paI p=p.i∧paX p=p.x∧paY p=p.y:=⟨if_pos h,if_pos h,if_pos h⟩
theorem pa_not {p:Pt} (h:¬ FitP p):paI p=false∧paX p=r40∧paY p=r40:=⟨if_neg h,if_neg h,if_neg h⟩
theorem paK_fit {p:Pt} (h:FitP p):paK p=0:=by
 cases p
 · rfl
 · exact (ga_fit h).2
theorem paC_raw (p:Pt):paC p=rawC (paI p) (paX p) (paY p):=by
 by_cases h:FitP p
 · rw [(pa_fit h).1,(pa_fit h).2.1,(pa_fit h).2.2]
   cases p
   · rfl
   · show _::gaC _=_
     rw [(ga_fit h).1]; rfl
 · rw [(pa_not h).1,(pa_not h).2.1,(pa_not h).2.2]
   cases p
   · exact absurd trivial h
   · show _::gaC _=_
     rw [(ga_not h).1]; rfl
structure BSpec (P:Program) where
 f:FuncId
 en:Enters P f
 args:List SV
 cs:List Lf
 t:TypeId
 r:Value
 ok:∀ β w,(Ob.box cs t).holds β w (β 0)→Calls P f (args.map (SV.den β)).toArray w fun e w'=>e=.returned r∧Below w.heap.size w w'
 cl:(cs.all (Lf.of fun _=>false)&&args.all (SV.of fun k=>Nat.beq k 0))=true
 hr:∀ β,(tag r).den β=r
def bkOf:List SV→Nat
 | []=>0
 | .one (.c (.b (.s k _ _ _)))::_=>k
 | _::r=>bkOf r
theorem cells_closed {β β':Env} {cs:List Lf} (h:cs.all (Lf.of fun _=>false)=true):cs.map (Lf.den β)=cs.map (Lf.den β') :=
 List.map_congr_left fun x hx=>Lf.den_congr (q:=fun _=>false) (fun k hk=>by cases hk) x (List.all_eq_true.1 h x hx)
def BSpec.e {P:Program} (S:BSpec P):Ev P:=.dyn (fun o _ _=>isCallB o) fun _ xs ob=>lit (bkOf xs) fun i =>
 .call S.f S.en (fun β=>(S.args.map (SV.den fun _=>β i)).toArray) [(i,.box S.cs S.t)] 0 (tag S.r) [] (fun β w h=>of_pure0 (by
  have hc:=S.cl
  rw [Bool.and_eq_true] at hc
  refine S.ok (fun _=>β i) w ?_
  have h1:(β i).one∧w.heap[(β i).b]?=some (.cells (S.cs.map (Lf.den β)).toArray S.t (0,0)):=h _ (List.mem_singleton.2 rfl)
  show (β i).one∧w.heap[(β i).b]?=some (.cells (S.cs.map (Lf.den fun _=>β i)).toArray S.t (0,0))
  rw [cells_closed (β':=β) hc.1]
  exact h1) S.hr)
theorem bspec_ok {P:Program} {f:FuncId} {fn:Func} {args:List SV} {cs:List Lf} {t:TypeId} {r:Value} (evs:List (Ev P)) (Ns:List (Nat × Nat)) (m:Nat) (hf:P.funcs[f]?=some fn) (hm:P.follows .mixedOrders=true)
  (h:∀ β,(allS P fn args [.box cs t] evs Ns m (tag r) [] β).map Prod.fst=(allS P fn args [.box cs t] evs Ns m (tag r) [] β).map Prod.snd)
  (hB:(args.all (SV.of fun k=>Nat.blt k 1)&&[Ob.box cs t].all fun x=>x.of (fun k=>Nat.blt k 1)&&x.own)=true) (hr:∀ β,(tag r).den β=r) (β:Env) (w:World) (hh:(Ob.box cs t).holds β w (β 0)) :
  Calls P f (args.map (SV.den β)).toArray w fun e w'=>e=.returned r∧Below w.heap.size w w':=by
 rw [Bool.and_eq_true] at hB
 refine (sx (P:=P) args [.box cs t] evs Ns m (tag r) [] hf hm (fun β=>ok_of_maps (h β)) hB.1 hB.2 β w (fun k o ho=>?_)).mono ?_
 · cases k with
   | zero=>simp only [List.getElem?_cons_zero] at ho; obtain rfl:=Option.some.inj ho; exact hh
   | succ k=>simp at ho
 · rintro e w' ⟨β',q,obj,e1,rfl,e2,e4,e5,g⟩
   exact ⟨by rw [hr],g.bel⟩
def big (k:Nat) (s:ByteArray):Bool:=decide ((k:Int)<(s.size:Int))
def smB (k:Nat) (x y:R4):Bool:=!(big k x.s||(big k x.t||(big k y.s||big k y.t)))
theorem big_lit {k:Nat} {s:ByteArray} {r:Bool} (h:big k s=r):Value.bool (decide ((k:Int)<(s.size:Int)))=.bool r:=by rw [← h]; rfl
def evBig (k:Nat) (s:ByteArray) (d:Nat) (r:Bool) (h:big k s=r):Ev Tryz.prog:=.eqv d (.bool (decide ((k:Int)<(s.size:Int)))) (.bool r) (big_lit h)
theorem small4_ok (k:Nat) (x y:R4) {b:Bool} (hb:smB k x y=b) (β:Env) (w:World) (hh:(Ob.box (x.L++y.L) 37).holds β w (β 0)) :
  Calls Tryz.prog 47 (([.one (.c (.b (.v (.int .i64 (k:Int))))),.one (.c (.b (.s 0 0 1 1)))]:List SV).map (SV.den β)).toArray w fun e w'=>e=.returned (.bool b)∧Below w.heap.size w w':=by
 unfold smB at hb
 cases h1:big k x.s with
 | true =>
  obtain rfl:b=false:=by rw [← hb,h1]; rfl
  exact bspec_ok [evBig k x.s 23 true h1] [] 800 Tryz.func47 hmA (fun β=>by kernel_rfl) (by kernel_rfl) (fun β=>rfl) β w hh
 | false=>cases h2:big k x.t with
 | true =>
  obtain rfl:b=false:=by rw [← hb,h1,h2]; rfl
  exact bspec_ok [evBig k x.s 23 false h1,evBig k x.t 31 true h2] [] 800 Tryz.func47 hmA (fun β=>by kernel_rfl) (by kernel_rfl) (fun β=>rfl) β w hh
 | false=>cases h3:big k y.s with
 | true =>
  obtain rfl:b=false:=by rw [← hb,h1,h2,h3]; rfl
  exact bspec_ok [evBig k x.s 23 false h1,evBig k x.t 31 false h2,evBig k y.s 40 true h3] [] 800 Tryz.func47 hmA (fun β=>by kernel_rfl) (by kernel_rfl) (fun β=>rfl) β w hh
 | false=>cases h4:big k y.t with
 | true =>
  obtain rfl:b=false:=by rw [← hb,h1,h2,h3,h4]; rfl
  exact bspec_ok [evBig k x.s 23 false h1,evBig k x.t 31 false h2,evBig k y.s 40 false h3,evBig k y.t 49 true h4] [] 800 Tryz.func47 hmA (fun β=>by kernel_rfl) (by kernel_rfl) (fun β=>rfl) β w hh
 | false =>
  obtain rfl:b=true:=by rw [← hb,h1,h2,h3,h4]; rfl
  exact bspec_ok [evBig k x.s 23 false h1,evBig k x.t 31 false h2,evBig k y.s 40 false h3,evBig k y.t 49 false h4] [] 800 Tryz.func47 hmA (fun β=>by kernel_rfl) (by kernel_rfl) (fun β=>rfl) β w hh
def sR4Small (k:Nat) (x y:R4) {b:Bool} (hb:smB k x y=b):BSpec Tryz.prog :=
 ⟨47,Tryz.call47,[.one (.c (.b (.v (.int .i64 (k:Int))))),.one (.c (.b (.s 0 0 1 1)))],x.L++y.L,37,.bool b,small4_ok k x y hb,by kernel_rfl,fun _=>rfl⟩
def Rw.C (r:Rw):List Lf:=rawC r.i r.x r.y
def Rw.sm (k:Nat) (r:Rw):Bool:=smB k r.x r.y
def Pp.may7E:Pp→List (Ev Tryz.prog)
 | .inf=>[]
 | .fin a b=>[(sR4May a b).e]
 | .odd x y h=>[eqEvP true true x y r40 r40 false (odd_ne h)]
def sR7May0 (p:Pp):Y.Spec Tryz.prog :=
 Y.Spec.auto Tryz.call29 [.one (.a p.C)] [] (.one (.c (.b (.v (.bool p.B))))) []
  p.may7E [] 400 Tryz.func29 hmA (by rcases p with _ | ⟨_ | _,_ | _⟩ | _<;>kernel_rfl) (fun β=>by rcases p with _ | ⟨_ | _,_ | _⟩ | _<;>kernel_rfl)
def sR7May (p:Pp) {b:Bool} (hb:p.B=b):Y.Spec Tryz.prog :=
 (sR7May0 p).as [svR p.rI p.rX p.rY] (.one (.c (.b (.v (.bool b))))) (congrArg (fun l=>[SV.one (.a l)]) (Pp.C_raw p)) (congrArg (fun b=>SV.one (.c (.b (.v (.bool b))))) hb)
def sR7Inf:Y.Spec Tryz.prog:=Y.Spec.auto Tryz.call145 [] [] (svP .inf) [] [] [] 400 Tryz.func145 hmA (by kernel_rfl) (fun β=>by kernel_rfl)
def sR7Of (z:GQ):Y.Spec Tryz.prog:=Y.Spec.auto Tryz.call40 [svG z] [] (svP (.fin z)) [] [] [] 400 Tryz.func40 hmA (by kernel_rfl) (fun β=>by kernel_rfl)
def sR7Int (n m:Int) (hn : -9223372036854775808≤n∧n≤9223372036854775807:=by decide) (hm : -9223372036854775808≤m∧m≤9223372036854775807:=by decide):Y.Spec Tryz.prog :=
 Y.Spec.auto Tryz.call143 [.one (.c (.b (.v (.int .i64 n)))),.one (.c (.b (.v (.int .i64 m))))] [] (svP (.fin (gint n m))) [] [(sR4Int n m hn hm).e,(sR7Of (gint n m)).e] [] 400 Tryz.func143 hmA (by kernel_rfl) (fun β=>by kernel_rfl)
end Go.Proofs.YtdiemgedlfnlmaaGreat
end
section
namespace Go.Proofs.YtdiemgedlfnlmaaGreat.Y
open Go Go.RowKit
set_option maxRecDepth 100000
theorem an_mem {w:World} {D1 D2:Thing} {xs:List Pl} (h:newHold w [D1,D2] xs):newHold w [anyT,anyT] xs:=by
 match xs,h with
 | [p,q],h=>exact ⟨an_of D1.st h.1,an_of D2.st h.2.1,trivial⟩
theorem spT_any {w:World} {p:Pp} {xs:List Pl} (h:newHold w (spT p) xs):newHold w [anyT,anyT] xs:=by
 rcases p with _ | ⟨_ | _,_ | _⟩ | _<;>exact an_mem h
def sSpotW (p:Pp) {r:Bool} (hr:p.B=r):Spec Tryz.prog :=
 ⟨150,Tryz.call150,[.one (.a (lsX p.w.C))],[],.tup [.a [.b (.v (.bool (spI p))),.b (.z 0 0),.b (.z 1 0)],.c (.b (.v (.bool r)))],[anyT,anyT],fun β w hh=>by
  rw [← hr]
  have h:=(sSpot p).ok β w hh
  rw [show (sSpot p).args=[.one (.a (lsX p.w.C))] from congrArg (fun l=>[SV.one (.a (lsX l))]) p.C_raw] at h
  exact h.mono fun e w' ⟨xs,h1,he,h2,h3⟩=>⟨xs,h1,he,spT_any h2,h3⟩,by kernel_rfl⟩
def sSpotP (p:Pt) (h:FitP p):Spec Tryz.prog :=
 ⟨150,Tryz.call150,[.one (.a (lsX p.w.C))],[],.tup [.a (pL 0 p),.c (.b (.v (.bool true)))],pM p,fun β w hh=>by
  cases p with
  | inf=>exact (sSpot .inf).ok β w hh
  | fin z =>
   refine ((sSpot (.fin (.ok z.re h.1) (.ok z.im h.2))).ok β w hh).mono fun e w' ⟨xs,h1,he,h2,h3⟩=>⟨xs,h1,he,?_,h3⟩
   have h4:newHold w' [ratT z.re,ratT z.im] xs:=h2
   match xs,h4 with
   | [a,b],h4=>exact ⟨(ratT z.re).imp _ _ h4.1,(ratT z.im).imp _ _ h4.2.1,trivial⟩,by kernel_rfl⟩
def eqEvPt {p q:Pt} {r:Bool} (h:ptB p q=r):Ev Tryz.prog:=eqEvP p.i q.i p.x p.y q.x q.y r h
structure Gp where
 a:Fr
 b:Fr
def Gp.C (g:Gp):SV:=.one (.a (rL g.a.r++rL g.b.r))
def Gp.B (g:Gp):Bool:=g.a.a.B&&g.b.a.B
abbrev tB' (t:Bool):SV:=.one (.c (.b (.v (.bool t))))
abbrev nI' (k:Int):SC:=.c (.b (.v (.int .i64 k)))
abbrev gS (z:GQ):SV:=.one (.a (lsX (gC z)))
end Go.Proofs.YtdiemgedlfnlmaaGreat.Y
end
section
namespace Go.Proofs.YtdiemgedlfnlmaaGreat
open Go.Proofs.YtdiemgedlfnlmaaGreat.Y
open Go Go.RowKit
set_option maxRecDepth 100000
abbrev svI (n:Int):SC:=.c (.b (.v (.int .i64 n)))
theorem sz_lit1 {n:Int} (h:n.natAbs<256):Fit (Rat.divInt n 1):=(Sz.small h).fit (by decide)
theorem fit_int {n m:Int} (h:n.natAbs<256) (k:m.natAbs<256):FitG (gint n m):=⟨sz_lit1 h,sz_lit1 k⟩
end Go.Proofs.YtdiemgedlfnlmaaGreat
end
section
namespace Go.Proofs.YtdiemgedlfnlmaaGreat.Y
open Go Go.RowKit
set_option maxRecDepth 100000
def frX (x:Rat) (h:Fit x):Fr:=⟨fR x,.ok x h,rfl⟩
def gpX (z:GQ) (h:FitG z):Gp:=⟨frX z.re h.1,frX z.im h.2⟩
inductive Gn where
 | ok (z:GQ) (h:FitG z)
 | no (g:Gp) (h:g.B=false)
def Gn.gp:Gn→Gp
 | .ok z h=>gpX z h
 | .no g _=>g
def Gn.x (g:Gn):R4:=g.gp.a.r
def Gn.y (g:Gn):R4:=g.gp.b.r
def Gn.z:Gn→GQ
 | .ok z _=>z
 | .no ..=>g0
theorem _root_.Go.Proofs.YtdiemgedlfnlmaaGreat.FitG.gsz {z:GQ} (h:FitG z):GSz 1024 z:=⟨h.1.sz,h.2.sz⟩
noncomputable abbrev fA (x:Rat):List Lf:=[.b (.v (.bool (ansB x))),.b (.v (.string (ansS x))),.b (.v (.bool false)),.b (.v (.string (ansD x)))]
theorem fA_fit {x:Rat} (h:Fit x):fA x=fC x∧ansK x=0:=by
 unfold fA fC
 rw [(ansF_fit h).1,(ansF_fit h).2.1,(ansF_fit h).2.2.1]
 exact ⟨rfl,(ansF_fit h).2.2.2⟩
def sGM (g:Gp) {r:Bool} (h:g.B=r):Spec Tryz.prog :=
 (sGMay g.a.a g.b.a).as [g.C] (tB' r) (by
  show [SV.one (.a (g.a.a.C++g.b.a.C))]=[SV.one (.a (rL g.a.r++rL g.b.r))]
  rw [show g.a.a.C=rL g.a.r from g.a.e,show g.b.a.C=rL g.b.r from g.b.e]) (congrArg tB' h)
abbrev KC:Nat:=1000000
structure RQ where
 a:Rat
 b:GQ
 c:Rat
structure RSz (k:Nat) (r:RQ):Prop where
 a:Sz k r.a
 b:GSz k r.b
 c:Sz k r.c
def rpow (r:RQ):Rat:=gnorm r.b-r.a*r.c
def rbyQ (i j:Bool) (r:RQ):Rat:=bif i then (bif j then r.b.im else r.b.re) else r.a
def rnm (r:RQ) (x:Rat):RQ:=⟨r.a*x⁻¹,gscale r.b x⁻¹,r.c*x⁻¹⟩
def FitC (m:RQ):Prop:=Fit m.a∧FitG m.b∧Fit m.c
section
variable {r:RQ} (h:RSz KC r) {i j:Bool} (hi:decide (r.a=0)=i) (hj:decide (r.b.re=0)=j) (h0:rbyQ i j r≠0)
include h hi hj h0
end
def rby (r:RQ):Rat:=rbyQ (decide (r.a=0)) (decide (r.b.re=0)) r
def rone (r:RQ):RQ:=rnm r (rby r)
section
variable {a:Rat} {b:GQ} {c:Rat} (ha:Fit a) (hb:FitG b) (hc:Fit c)
theorem one_sz:Sz 8 (Rat.divInt 1 1):=sz_lit 1 1 (by decide) (by decide) (by decide)
end
inductive Fn where
 | ok (x:Rat) (h:Fit x)
 | no (f:Fr) (h:f.a.B=false)
def Fn.fr:Fn→Fr
 | .ok x h=>frX x h
 | .no f _=>f
def Fn.r (a:Fn):R4:=a.fr.r
def alOf (ob:List Ob) (j:Nat):Nat:=match ob[j]? with
 | some (.al i _)=>i
 | _=>0
def dynRf {P:Program} (f:Nat→Nat→Nat→Nat→Ev P):Ev P:=.dyn (fun o _ _=>isCallB o) fun _ xs ob=>lit ob.length fun n=>lit (ptOf (xs.getD 0 undefS)) fun j=>lit (alOf ob j) fun i=>lit (ptOf (xs.getD 2 undefS)) fun k=>f i j n k
theorem one_at {g:Pl} {b:Nat} (h:g.one) (k:At1 g b):b=g.b:=((k.2 g.b).1 ((h.1 _).2 rfl)).symm
def eRQuo {x y:Rat} (i j n k:Nat) (hx:Sz KB x) (hy:Sz KB y) (h0:y≠0):Ev Tryz.prog:=.refill 172 Tryz.call172 (fun β=>#[.pointer ((β j).v 0),.pointer ((β j).v 0),.pointer ((β k).v 0)]) [(j,(ratT x).ob),(k,(ratT y).ob)] i j 4 n (ratT (x/y))
 (fun β w h hji ho hs=>by
  obtain ⟨a,ha,ka⟩:=needP (x:=x) (k:=j) h (by simp)
  obtain ⟨b,hb,kb⟩:=needP (x:=y) (k:=k) h (by simp)
  have e:=one_at ho (hji▸ha)
  subst e
  simp only [ha.1,hb.1]
  exact fillP ho (rQuo_any hs ka kb (hx.okR2 (by decide)) (hy.okR2 (by decide)) h0))
def rQuo {x y:Rat} (hx:Sz KB x) (hy:Sz KB y) (h0:y≠0):Ev Tryz.prog:=dynRf fun i j n k=>eRQuo i j n k hx hy h0
end Go.Proofs.YtdiemgedlfnlmaaGreat.Y
end
section
namespace Go.Proofs.YtdiemgedlfnlmaaGreat
open Go.RowKit
theorem fracV_inj {x y:Rat} (h:fracV x=fracV y):x=y:=by
 obtain ⟨h1,h2,_,h4⟩:=agg4 h
 have e1:x.num=y.num:=sg_inj h1 (mag_inj h2)
 have e2:x.den=y.den:=mag_inj h4
 exact Rat.ext e1 e2
end Go.Proofs.YtdiemgedlfnlmaaGreat
end
section
namespace Go.Proofs.YtdiemgedlfnlmaaGreat.Y
open Go Go.RowKit
set_option maxRecDepth 100000
abbrev KD5:Nat:=5000
theorem sq_sum {x y:Rat} (h:x*x+y*y=0):x=0∧y=0:=by
 have hn:∀ z:Rat,0≤z*z:=fun z=>by
  rcases Rat.le_total (a:=0) (b:=z) with h | h
  · exact Rat.mul_nonneg h h
  · have:=Rat.mul_nonneg (a:=-z) (b:=-z) (by grind) (by grind)
    grind
 have h1:=hn x
 have h2:=hn y
 have e1:x*x=0:=by grind
 have e2:y*y=0:=by grind
 exact ⟨by rcases Rat.mul_eq_zero.1 e1 with h | h<;>exact h,by rcases Rat.mul_eq_zero.1 e2 with h | h<;>exact h⟩
def sR3Small (n m:Int) (hn : -9223372036854775808≤n∧n≤9223372036854775807) (hm : -9223372036854775808≤m∧m≤9223372036854775807) (h0:m≠0) (sn:sz n≤1000000000) (sm:sz m≤1000000000):Spec Tryz.prog :=
 Spec.auto Tryz.call146 [.one (svI n),.one (svI m)] [] (.one (.a (fC (Rat.divInt n m)))) [] [eWOf n hn,eWOf m hm,eFOf sn sm h0] [] 400 Tryz.func146 hmA (by kernel_rfl) (fun β=>by kernel_rfl)
structure MayC (r:RQ):Prop where
 fit:FitC r
 pow:decide ((rpow r).num.sign≤0)=false
 one:rone r=r
theorem div_sz {i j:Nat} {x y:Rat} (hx:Sz i x) (hy:Sz j y) (h0:y≠0):Sz (i+j) (x/y):=by
 rw [Rat.div_def]
 exact hx.mul (hy.inv h0)
theorem n2_sz:Sz 8 (Rat.divInt 2 1):=sz_lit 2 1 (by decide) (by decide) (by decide)
def wgQ (p:Pt):Rat:=gnorm (byA p)+gnorm (byB p)
section
variable {p q:Pt} (hp:PSz 1024 p) (hq:PSz 1024 q)
theorem byA1 {p:Pt} (hp:PSz 1024 p):GSz 1024 (byA p):=byA_sz hp (by decide)
theorem byB1 (p:Pt):GSz 1024 (byB p):=byB_sz (by decide)
include hp in
theorem wg_sz:Sz 10000 (wgQ p):=((byA1 hp).norm.add (byB1 p).norm).mono (by decide)
noncomputable def sWeigh:Spec Tryz.prog :=
 ⟨173,Tryz.call173,[pV 0 p],pM p,rV 2,[ratT (wgQ p)],fun β w hh=>by
  cases p with
  | inf=>exact spec_auto (args:=[pV 0 .inf]) (obs:=pM .inf) (res:=rV 2) (news:=[ratT (wgQ .inf)]) (evs:=[(sBy .inf).e,mkR,(sNorm ((byA1 hp).mono (by decide))).e,(sNorm ((byB1 .inf).mono (by decide))).e,fAdd ((byA1 hp).norm.mono (by decide)) ((byB1 .inf).norm.mono (by decide))]) (Ns:=[(2,7)]) (m:=800) Tryz.func173 hmA (fun β=>by kernel_rfl) (by kernel_rfl) β w hh
  | fin z=>exact spec_auto (args:=[pV 0 (.fin z)]) (obs:=pM (.fin z)) (res:=rV 2) (news:=[ratT (wgQ (.fin z))]) (evs:=[(sBy (.fin z)).e,mkR,(sNorm ((byA1 hp).mono (by decide))).e,(sNorm ((byB1 (.fin z)).mono (by decide))).e,fAdd ((byA1 hp).norm.mono (by decide)) ((byB1 (.fin z)).norm.mono (by decide))]) (Ns:=[(2,7)]) (m:=800) Tryz.func173 hmA (fun β=>by kernel_rfl) (by kernel_rfl) β w hh,by cases p<;>kernel_rfl⟩
abbrev r41:Rat:=Rat.divInt 4 1
theorem r41_sz:Sz 1 r41:=Sz.small (by decide)
include hp hq in
theorem gac_sz:GSz 9000 (gacross p q):=(gacross_sz hp hq (by decide)).mono (by decide)
include hp hq in
theorem gan_sz:Sz 37000 (gnorm (gacross p q)):=(gac_sz hp hq).norm.mono (by decide)
include hp hq in
theorem wgp_sz:Sz 20000 (wgQ p*wgQ q):=((wg_sz hp).mul (wg_sz hq)).mono (by decide)
def chQ (p q:Pt):Rat:=r41*gnorm (gacross p q)/(wgQ p*wgQ q)
theorem gn_nn (z:GQ):0≤gnorm z:=by
 have h:∀ x:Rat,0≤x*x:=fun x=>by
  rcases Rat.le_total (a:=0) (b:=x) with h | h
  · exact Rat.mul_nonneg h h
  · have:=Rat.mul_nonneg (a:=-x) (b:=-x) (by grind) (by grind)
    grind
 have h1:=h z.re
 have h2:=h z.im
 unfold gnorm
 grind
theorem wg_ne (p:Pt):wgQ p≠0:=by
 intro e
 have h1:=gn_nn (byA p)
 have h2:=gn_nn (byB p)
 unfold wgQ at e
 cases p with
 | inf =>
  have e1:gnorm (byA .inf)=1:=of_decide_eq_true (by kernel_rfl:decide (gnorm (byA .inf)=1)=true)
  rw [e1] at e h1
  grind
 | fin z =>
  have e1:gnorm (byB (.fin z))=1:=of_decide_eq_true (by kernel_rfl:decide (gnorm (byB (.fin ⟨0,0⟩))=1)=true)
  rw [e1] at e h2
  grind
theorem wgp_ne (p q:Pt):wgQ p*wgQ q≠0:=fun e=>(Rat.mul_eq_zero.1 e).elim (wg_ne p) (wg_ne q)
noncomputable def spChE:List (Ev Tryz.prog) :=
 [mkR,nNew 4 1 (by decide) (by decide) (by decide),(sAcross (hp.mono (by decide)) (hq.mono (by decide))).e,(sNorm ((gac_sz hp hq).mono (by decide))).e,fMul (r41_sz.mono (by decide)) ((gan_sz hp hq).mono (by decide)),
  mkR,(sWeigh hp).e,(sWeigh hq).e,fMul ((wg_sz hp).mono (by decide)) ((wg_sz hq).mono (by decide)),rQuo ((r41_sz.mul (gan_sz hp hq)).mono (by decide)) ((wgp_sz hp hq).mono (by decide)) (wgp_ne p q)]
noncomputable def sSpChord:Spec Tryz.prog :=
 ⟨152,Tryz.call152,[pV 0 p,pV 2 q],pM p++pM q,rV 4,[ratT (chQ p q)],fun β w hh=>by
  cases p<;>cases q<;>exact spec_auto (args:=[pV 0 _,pV 2 _]) (obs:=pM _++pM _) (res:=rV 4) (news:=[ratT (chQ _ _)]) (evs:=spChE hp hq) (Ns:=[(1,8),(2,8)]) (m:=800) Tryz.func152 hmA (fun β=>by kernel_rfl) (by kernel_rfl) β w hh,by cases p<;>cases q<;>kernel_rfl⟩
end
end Go.Proofs.YtdiemgedlfnlmaaGreat.Y
end
section
namespace Go.Proofs.YtdiemgedlfnlmaaGreat.Y
open Go Go.RowKit
theorem spec_yes {P:Program} (S:Spec P) (ho:S.obs=[]) (hr:S.res=.one (.c (.b (.v (.bool true))))) (w:World):Calls P S.f (S.args.map (SV.den idE)).toArray w fun e w'=>e=.returned (.bool true)∧Below w.heap.size w w':=by
 refine (S.ok idE w (by rw [ho]; intro k t h; simp at h)).mono ?_
 rintro e w' ⟨xs,_,rfl,_,hb⟩
 exact ⟨by rw [hr]; rfl,hb⟩
end Go.Proofs.YtdiemgedlfnlmaaGreat.Y
end
section
namespace Go.Proofs.YtdiemgedlfnlmaaGreat.Y
open Go Go.RowKit
set_option maxRecDepth 100000
structure CkNo (l:List Lf):Prop where
 cl:l.all (Lf.of fun _=>false)=true
 prog:∀ (β:Env) (w:World),Calls Tryz.prog 105 (([.one (.a l)]:List SV).map (SV.den β)).toArray w fun e w'=>e=.returned (.int .i64 2)∧Below w.heap.size w w'
 ref:∀ (β:Env) (w:World),Calls Tryz.prog 103 (([.one (.a l)]:List SV).map (SV.den β)).toArray w fun e w'=>e=.returned (.int .i64 2)∧Below w.heap.size w w'
inductive Cp where
 | ok (r:RQ) (h:MayC r)
 | no (a b b' c:R4) (h:CkNo (rL a++(rL b++rL b')++rL c))
def Cp.b:Cp→R4
 | .ok r _=>fR r.b.re
 | .no _ b _ _ _=>b
def Cp.c:Cp→R4
 | .ok r _=>fR r.c
 | .no _ _ _ c _=>c
abbrev fcS (x:Rat):SV:=.one (.a (fC x))
abbrev fvV (f:Nat):SV:=.one (.c (.f (.func f) [] []))
def sFrat {x:Rat} (h:Fit x):Spec Tryz.prog :=
 ⟨129,Tryz.call129,[.one (.a (fC x))],[],.one (.c (.b (.z 0 0))),[ratT x],fun β w hh=>by
  obtain ⟨y,hp⟩:=parts_of (fitF x h)
  obtain rfl:x=y:=fracV_inj hp.val
  exact (rat_frac hp).mono fun e w' ⟨g,he,h1,h2,h3⟩=>⟨[newPl g],fun y hy c hc=>by
   obtain rfl:=List.mem_singleton.1 hy
   rw [((newPl_one g).1 c).1 hc]
   exact .inl h1,by rw [he]; exact congrArg Ending.returned (extE_z β 0 0 (newPl g)).symm,⟨⟨g,(newPl_one g).at1,h2⟩,trivial⟩,h3⟩,by kernel_rfl⟩
def sFCmp {x y:Rat} (hx:Fit x) (hy:Fit y):Spec Tryz.prog :=
 Spec.auto Tryz.call126 [.one (.a (fC x)),.one (.a (fC y))] [] (.tup [svI (cmpQ x y),nI' 0]) []
  [eMayF x hx,eMayF y hy,(sFrat hx).e,(sFrat hy).e,nCmp (hx.sz.mono (by decide)) (hy.sz.mono (by decide)) rfl] [(3,7)] 400 Tryz.func126 hmA (by kernel_rfl) (fun β=>by kernel_rfl)
def sR3Cmp {x y:Rat} (hx:Fit x) (hy:Fit y):Spec Tryz.prog :=
 (Spec.auto Tryz.call18 [.one (.a (fC x)),.one (.a (fC y))] [] (.one (svI (cmpI (x.num*y.den) (y.num*x.den)))) []
  [eWTimes (Nat.le_trans hx.sz.1 (by decide)) (Nat.le_trans hy.sz.2 (by decide)),eWTimes (Nat.le_trans hy.sz.1 (by decide)) (Nat.le_trans hx.sz.2 (by decide)),eWCmp (Nat.le_trans (sz_mul hx.sz.1 hy.sz.2) (by decide)) (Nat.le_trans (sz_mul hy.sz.1 hx.sz.2) (by decide))] [(1,12)] 400 Tryz.func18 hmA (by kernel_rfl) (fun β=>by kernel_rfl)).conv (.one (svI (cmpQ x y))) (congrArg (fun n=>SV.one (svI n)) (cmpQ_of x y))
def cmpG (r:Bool) (z w:GQ):Int:=bif r then cmpQ z.re w.re else cmpQ z.im w.im
theorem ne_lit {a:Int} {r:Bool} (h:(!(a==0))=r):Value.bool (!(a==0))=.bool r:=by rw [h]
noncomputable def sGCmp {z w:GQ} (hz:FitG z) (hw:FitG w) {r s:Bool} (hr:(!(cmpQ z.re w.re==0))=r) (hs:(!(cmpQ z.im w.im==0))=s):Spec Tryz.prog :=
 ⟨283,Tryz.call283,[gS z,gS w],[],.tup [svI (cmpG r z w),nI' 0],[],fun β w' hh=>by
  cases r with
  | true=>exact spec_auto (evs:=[(sGM (gpX z hz) (r:=true) rfl).e,(sGM (gpX w hw) (r:=true) rfl).e,(sFCmp hz.1 hw.1).e,.eqv 41 (.bool (!(cmpQ z.re w.re==0))) (.bool true) (ne_lit hr)]) (Ns:=[]) (m:=800) Tryz.func283 hmA (fun β=>by kernel_rfl) (by kernel_rfl) β w' hh
  | false=>cases s with
   | true=>exact spec_auto (evs:=[(sGM (gpX z hz) (r:=true) rfl).e,(sGM (gpX w hw) (r:=true) rfl).e,(sFCmp hz.1 hw.1).e,.eqv 41 (.bool (!(cmpQ z.re w.re==0))) (.bool false) (ne_lit hr),(sFCmp hz.2 hw.2).e,.eqv 41 (.bool (!(cmpQ z.im w.im==0))) (.bool true) (ne_lit hs)]) (Ns:=[]) (m:=800) Tryz.func283 hmA (fun β=>by kernel_rfl) (by kernel_rfl) β w' hh
   | false =>
    have e:cmpG false z w=0:=by
     show cmpQ z.im w.im=0
     rwa [Bool.not_eq_false',beq_iff_eq] at hs
    rw [e]
    exact spec_auto (evs:=[(sGM (gpX z hz) (r:=true) rfl).e,(sGM (gpX w hw) (r:=true) rfl).e,(sFCmp hz.1 hw.1).e,.eqv 41 (.bool (!(cmpQ z.re w.re==0))) (.bool false) (ne_lit hr),(sFCmp hz.2 hw.2).e,.eqv 41 (.bool (!(cmpQ z.im w.im==0))) (.bool false) (ne_lit hs)]) (Ns:=[]) (m:=800) Tryz.func283 hmA (fun β=>by kernel_rfl) (by kernel_rfl) β w' hh,by kernel_rfl⟩
def sR4Cmp {z w:GQ} (hz:FitG z) (hw:FitG w) {r:Bool} (hr:(!(cmpQ z.re w.re==0))=r):Spec Tryz.prog :=
 ⟨153,Tryz.call153,[gS z,gS w],[],.one (svI (cmpG r z w)),[],fun β w' hh=>by
  cases r with
  | true=>exact spec_auto (evs:=[(sR3Cmp hz.1 hw.1).e,.eqv 12 (.bool (!(cmpQ z.re w.re==0))) (.bool true) (ne_lit hr)]) (Ns:=[]) (m:=400) Tryz.func153 hmA (fun β=>by kernel_rfl) (by kernel_rfl) β w' hh
  | false=>exact spec_auto (evs:=[(sR3Cmp hz.1 hw.1).e,.eqv 12 (.bool (!(cmpQ z.re w.re==0))) (.bool false) (ne_lit hr),(sR3Cmp hz.2 hw.2).e]) (Ns:=[]) (m:=400) Tryz.func153 hmA (fun β=>by kernel_rfl) (by kernel_rfl) β w' hh,by kernel_rfl⟩
abbrev PTT:TypeId:=39
abbrev pw (p:Pt):List Lf:=rawC p.i p.x p.y
noncomputable def ordI:Pt→Pt→Int
 | .inf,.inf=>0
 | .inf,_=>1
 | _,.inf=>-1
 | .fin z,.fin w=>cmpG (!(cmpQ z.re w.re==0)) z w
noncomputable def sOrder {p q:Pt} (hp:FitP p) (hq:FitP q):Spec Tryz.prog :=
 ⟨149,Tryz.call149,[svP p,svP q],[],.one (svI (ordI p q)),[],fun β w hh=>by
  cases p<;>cases q
  · exact spec_auto (args:=[svP .inf,svP .inf]) (obs:=[]) (evs:=[]) (Ns:=[]) (m:=800) Tryz.func149 hmA (fun β=>by kernel_rfl) (by kernel_rfl) β w hh
  · rename_i z
    exact spec_auto (args:=[svP .inf,svP (.fin z)]) (obs:=[]) (evs:=[]) (Ns:=[]) (m:=800) Tryz.func149 hmA (fun β=>by kernel_rfl) (by kernel_rfl) β w hh
  · rename_i z
    exact spec_auto (args:=[svP (.fin z),svP .inf]) (obs:=[]) (evs:=[]) (Ns:=[]) (m:=800) Tryz.func149 hmA (fun β=>by kernel_rfl) (by kernel_rfl) β w hh
  · rename_i z u
    exact spec_auto (args:=[svP (.fin z),svP (.fin u)]) (obs:=[]) (evs:=[(sGCmp (z:=z) (w:=u) hp hq rfl rfl).e]) (Ns:=[]) (m:=800) Tryz.func149 hmA (fun β=>by kernel_rfl) (by kernel_rfl) β w hh,by cases p<;>cases q<;>kernel_rfl⟩
abbrev pwS (p:Pp):SV:=.one (.a (lsX p.w.C))
section
variable {p q:Pt} (hp:FitP p) (hq:FitP q)
include hp hq in
theorem chQ_sz:Sz 60000 (chQ p q):=(div_sz (r41_sz.mul (gan_sz hp.sz hq.sz)) (wgp_sz hp.sz hq.sz) (wgp_ne p q)).mono (by decide)
noncomputable def sSChord:Spec Tryz.prog :=
 ⟨24,Tryz.call24,[svP p,svP q],[],.tup [.a (fA (chQ p q)),nI' (ansK (chQ p q))],[],fun β w hh=>by
  cases p<;>cases q<;>exact spec_auto (args:=[svP _,svP _]) (obs:=[]) (evs:=[(sSpotP _ hp).e,(sSpotP _ hq).e,(sSpChord hp.sz hq.sz).e,(sFrac ((chQ_sz hp hq).mono (by decide))).e]) (Ns:=[]) (m:=800) Tryz.func24 hmA (fun β=>by kernel_rfl) (by kernel_rfl) β w hh,by cases p<;>cases q<;>kernel_rfl⟩
end
noncomputable def sSChordNo (p q:Pp) (h:(p.B&&q.B)=false):Spec Tryz.prog :=
 ⟨24,Tryz.call24,[pwS p,pwS q],[],.tup [.a (rL r40),nI' 2],[],fun β w hh=>by
  cases h1:p.B with
  | false=>cases h2:q.B<;>exact spec_auto (evs:=[(sSpotW p h1).e,(sSpotW q h2).e]) (Ns:=[]) (m:=800) Tryz.func24 hmA (fun β=>by kernel_rfl) (by kernel_rfl) β w hh
  | true =>
   rw [h1] at h
   have h2:q.B=false:=h
   exact spec_auto (evs:=[(sSpotW p h1).e,(sSpotW q h2).e]) (Ns:=[]) (m:=800) Tryz.func24 hmA (fun β=>by kernel_rfl) (by kernel_rfl) β w hh,by kernel_rfl⟩
noncomputable def sChkW (p:Pp) {b:Bool} (hb:p.B=b):Spec Tryz.prog :=
 ⟨282,Tryz.call282,[pwS p],[],.one (.c (.b (.v (.bool (!b))))),[],fun β w hh=>by
  have h:(sPMay p).args=[pwS p]:=congrArg (fun l=>[SV.one (.a l)]) p.C_raw
  subst hb
  cases e:p.B with
  | false=>exact spec_auto (args:=[pwS p]) (obs:=[]) (evs:=[((sPMay p).as [pwS p] (.one (.c (.b (.v (.bool false))))) h (by rw [← e]; rfl)).e]) (Ns:=[]) (m:=400) Tryz.func282 hmA (fun β=>by kernel_rfl) (by kernel_rfl) β w hh
  | true=>exact spec_auto (args:=[pwS p]) (obs:=[]) (evs:=[((sPMay p).as [pwS p] (.one (.c (.b (.v (.bool true))))) h (by rw [← e]; rfl)).e]) (Ns:=[]) (m:=400) Tryz.func282 hmA (fun β=>by kernel_rfl) (by kernel_rfl) β w hh,by kernel_rfl⟩
abbrev ck2L (p q:Pp):List Lf:=lsX p.w.C++lsX q.w.C
abbrev ck2F:SV:=fvV 282
abbrev ck2A:List SV:=[.one (.c (.b (.s 0 0 2 2))),ck2F]
def ck2I (a b:Bool):Int:=bif a then (bif b then -1 else 1) else 0
theorem ckIdx2_ok (p q:Pp) {a b:Bool} (ha:p.B=a) (hb:q.B=b) (β:Env) (w:World) (hh:(Ob.box (ck2L p q) PTT).holds β w (β 0)) :
  Calls Tryz.prog 310 (ck2A.map (SV.den β)).toArray w fun e w'=>e=.returned (.int .i64 (ck2I a b))∧Below w.heap.size w w':=by
 cases a
 · exact bspec_ok [(sChkW p ha).e] [] 800 Tryz.func310 hmA (fun β=>by kernel_rfl) (by kernel_rfl) (fun β=>rfl) β w hh
 · cases b<;>exact bspec_ok [(sChkW p ha).e,(sChkW q hb).e] [] 800 Tryz.func310 hmA (fun β=>by kernel_rfl) (by kernel_rfl) (fun β=>rfl) β w hh
noncomputable def sCkIdx2 (p q:Pp) {a b:Bool} (ha:p.B=a) (hb:q.B=b):BSpec Tryz.prog :=
 ⟨310,Tryz.call310,ck2A,ck2L p q,PTT,.int .i64 (ck2I a b),ckIdx2_ok p q ha hb,by kernel_rfl,fun _=>rfl⟩
theorem ckHas2_ok (p q:Pp) {a b:Bool} (ha:p.B=a) (hb:q.B=b) (β:Env) (w:World) (hh:(Ob.box (ck2L p q) PTT).holds β w (β 0)) :
  Calls Tryz.prog 214 (ck2A.map (SV.den β)).toArray w fun e w'=>e=.returned (.bool (!(a&&b)))∧Below w.heap.size w w':=by
 cases a<;>cases b<;>exact bspec_ok [(sCkIdx2 p q ha hb).e] [] 800 Tryz.func214 hmA (fun β=>by kernel_rfl) (by kernel_rfl) (fun β=>rfl) β w hh
noncomputable def sCkHas2 (p q:Pp) {a b:Bool} (ha:p.B=a) (hb:q.B=b):BSpec Tryz.prog :=
 ⟨214,Tryz.call214,ck2A,ck2L p q,PTT,.bool (!(a&&b)),ckHas2_ok p q ha hb,by kernel_rfl,fun _=>rfl⟩
abbrev ckA:List SV:=[.one (.c (.b (.s 0 0 2 2)))]
theorem check2_ok (p q:Pp) {a b:Bool} (ha:p.B=a) (hb:q.B=b) (β:Env) (w:World) (hh:(Ob.box (ck2L p q) PTT).holds β w (β 0)) :
  Calls Tryz.prog 148 (ckA.map (SV.den β)).toArray w fun e w'=>e=.returned (.int .i64 (bif a&&b then 0 else 2))∧Below w.heap.size w w':=by
 cases a<;>cases b<;>exact bspec_ok [(sCkHas2 p q ha hb).e] [] 800 Tryz.func148 hmA (fun β=>by kernel_rfl) (by kernel_rfl) (fun β=>rfl) β w hh
noncomputable def sCheck2 (p q:Pp) {a b:Bool} (ha:p.B=a) (hb:q.B=b):BSpec Tryz.prog :=
 ⟨148,Tryz.call148,ckA,ck2L p q,PTT,.int .i64 (bif a&&b then 0 else 2),check2_ok p q ha hb,by kernel_rfl,fun _=>rfl⟩
noncomputable def sSCmpNo (p q:Pp) (h:(p.B&&q.B)=false):Spec Tryz.prog :=
 ⟨23,Tryz.call23,[pwS p,pwS q],[],.tup [nI' 0,nI' 2],[],fun β w hh=>by
  cases h1:p.B with
  | false=>cases h2:q.B<;>exact spec_auto (evs:=[(sCheck2 p q h1 h2).e]) (Ns:=[]) (m:=800) Tryz.func23 hmA (fun β=>by kernel_rfl) (by kernel_rfl) β w hh
  | true =>
   rw [h1] at h
   have h2:q.B=false:=h
   exact spec_auto (evs:=[(sCheck2 p q h1 h2).e]) (Ns:=[]) (m:=800) Tryz.func23 hmA (fun β=>by kernel_rfl) (by kernel_rfl) β w hh,by kernel_rfl⟩
noncomputable def sSCmp {p q:Pt} (hp:FitP p) (hq:FitP q):Spec Tryz.prog :=
 ⟨23,Tryz.call23,[svP p,svP q],[],.tup [.c (.b (.v (.int .i64 (ordI p q)))),nI' 0],[],fun β w hh=>by
  cases p<;>cases q<;>exact spec_auto (args:=[svP _,svP _]) (obs:=[]) (evs:=[(sCheck2 (ppt _ hp) (ppt _ hq) (a:=true) (b:=true) rfl rfl).e,(sOrder hp hq).e]) (Ns:=[]) (m:=800) Tryz.func23 hmA (fun β=>by kernel_rfl) (by kernel_rfl) β w hh,by cases p<;>cases q<;>kernel_rfl⟩
abbrev rg (x:Rat):GQ:=⟨x,0⟩
def wy0 (f:RQ):GQ:=gadd (rg f.b.re) (gmul (rg f.b.im) (gint 0 1))
def wayQ (f:RQ):GQ:=gconj (wy0 f)
abbrev KI:Nat:=300
def cuN (l:RQ):Rat:=gnorm (wayQ l)
section
variable {l k:RQ} (hl:RSz KI l) (hk:RSz KI k) (h0:k.a≠0) (hn:cuN l≠0)
theorem mul_ne {x y:Rat} (hx:x≠0) (hy:y≠0):x*y≠0:=fun h=>(Rat.mul_eq_zero.1 h).elim hx hy
end
noncomputable def sR7Cmp {p q:Pt} (hp:FitP p) (hq:FitP q):Spec Tryz.prog :=
 ⟨27,Tryz.call27,[svP p,svP q],[],.one (svI (ordI p q)),[],fun β w hh=>by
  cases p<;>cases q
  · exact spec_auto (args:=[svP .inf,svP .inf]) (obs:=[]) (evs:=[]) (Ns:=[]) (m:=800) Tryz.func27 hmA (fun β=>by kernel_rfl) (by kernel_rfl) β w hh
  · rename_i z
    exact spec_auto (args:=[svP .inf,svP (.fin z)]) (obs:=[]) (evs:=[]) (Ns:=[]) (m:=800) Tryz.func27 hmA (fun β=>by kernel_rfl) (by kernel_rfl) β w hh
  · rename_i z
    exact spec_auto (args:=[svP (.fin z),svP .inf]) (obs:=[]) (evs:=[]) (Ns:=[]) (m:=800) Tryz.func27 hmA (fun β=>by kernel_rfl) (by kernel_rfl) β w hh
  · rename_i z u
    exact spec_auto (args:=[svP (.fin z),svP (.fin u)]) (obs:=[]) (evs:=[(sR4Cmp (z:=z) (w:=u) hp hq rfl).e]) (Ns:=[]) (m:=800) Tryz.func27 hmA (fun β=>by kernel_rfl) (by kernel_rfl) β w hh,by cases p<;>cases q<;>kernel_rfl⟩
def rwQ (z:GQ):Rat:=gnorm z+Rat.divInt 1 1
def rchQ:Pt→Pt→Rat
 | .inf,.inf=>Rat.divInt 0 1
 | .inf,.fin w=>r41/rwQ w
 | .fin z,.inf=>r41/rwQ z
 | .fin z,.fin w=>r41*gnorm (gsub z w)/(rwQ z*rwQ w)
theorem rw_ne (z:GQ):rwQ z≠0:=by
 have h:=gn_nn z
 have h1:(Rat.divInt 1 1:Rat)=1:=of_decide_eq_true (by kernel_rfl:decide ((Rat.divInt 1 1:Rat)=1)=true)
 unfold rwQ
 rw [h1]
 intro e
 grind
section
variable {z w:GQ} (hz:GSz 1024 z) (hw:GSz 1024 w)
include hz in
theorem rgn_sz:Sz 4200 (gnorm z):=hz.norm.mono (by decide)
include hz in
theorem rwQ_sz:Sz 4300 (rwQ z):=((rgn_sz hz).add one_sz).mono (by decide)
noncomputable def sR7Weight:Spec Tryz.prog :=
 Spec.auto Tryz.call154 [gS z] [] (fcS (rwQ z)) [] [(sR4Norm (hz.mono (by decide))).e,(sR3Int 1 (by decide)).e,(sR3Plus ((rgn_sz hz).mono (by decide)) (one_sz.mono (by decide))).e] [(1,4)] 400 Tryz.func154 hmA (by kernel_rfl) (fun β=>by kernel_rfl)
include hz hw in
theorem rgd_sz:Sz 8300 (gnorm (gsub z w)):=(hz.sub hw).norm.mono (by decide)
end
noncomputable def sR7Chord {p q:Pt} (hp:FitP p) (hq:FitP q):Spec Tryz.prog :=
 ⟨28,Tryz.call28,[svP p,svP q],[],fcS (rchQ p q),[],fun β w' hh=>by
  cases p with
  | inf=>cases q with
   | inf=>exact spec_auto (args:=[svP .inf,svP .inf]) (obs:=[]) (evs:=[(sR3Int 4 (by decide)).e,(sR3Int 0 (by decide)).e]) (Ns:=[(5,5),(7,5),(9,11)]) (m:=800) Tryz.func28 hmA (fun β=>by kernel_rfl) (by kernel_rfl) β w' hh
   | fin w=>exact spec_auto (args:=[svP .inf,svP (.fin w)]) (obs:=[]) (evs:=[(sR3Int 4 (by decide)).e,(sR7Weight hq.gsz).e,(sR3Over (r41_sz.mono (by decide)) ((rwQ_sz hq.gsz).mono (by decide)) (rw_ne w)).e]) (Ns:=[(5,5),(7,5),(9,11)]) (m:=800) Tryz.func28 hmA (fun β=>by kernel_rfl) (by kernel_rfl) β w' hh
  | fin z=>cases q with
   | inf=>exact spec_auto (args:=[svP (.fin z),svP .inf]) (obs:=[]) (evs:=[(sR3Int 4 (by decide)).e,(sR7Weight hp.gsz).e,(sR3Over (r41_sz.mono (by decide)) ((rwQ_sz hp.gsz).mono (by decide)) (rw_ne z)).e]) (Ns:=[(5,5),(7,5),(9,11)]) (m:=800) Tryz.func28 hmA (fun β=>by kernel_rfl) (by kernel_rfl) β w' hh
   | fin w=>exact spec_auto (args:=[svP (.fin z),svP (.fin w)]) (obs:=[]) (evs:=[(sR3Int 4 (by decide)).e,(sR4Minus (hp.gsz.mono (by decide)) (hq.gsz.mono (by decide))).e,(sR4Norm ((hp.gsz.sub hq.gsz).mono (by decide))).e,(sR3Times (r41_sz.mono (by decide)) ((rgd_sz hp.gsz hq.gsz).mono (by decide))).e,(sR7Weight hp.gsz).e,(sR7Weight hq.gsz).e,(sR3Times ((rwQ_sz hp.gsz).mono (by decide)) ((rwQ_sz hq.gsz).mono (by decide))).e,
     (sR3Over ((r41_sz.mul (rgd_sz hp.gsz hq.gsz)).mono (by decide)) (((rwQ_sz hp.gsz).mul (rwQ_sz hq.gsz)).mono (by decide)) (fun e=>(Rat.mul_eq_zero.1 e).elim (rw_ne z) (rw_ne w))).e]) (Ns:=[(5,5),(7,5),(9,11)]) (m:=800) Tryz.func28 hmA (fun β=>by kernel_rfl) (by kernel_rfl) β w' hh,by cases p<;>cases q<;>kernel_rfl⟩
theorem i1v:(Rat.divInt 1 1:Rat)=1:=of_decide_eq_true (by kernel_rfl:decide ((Rat.divInt 1 1:Rat)=1)=true)
theorem i0v:(Rat.divInt 0 1:Rat)=0:=of_decide_eq_true (by kernel_rfl:decide ((Rat.divInt 0 1:Rat)=0)=true)
theorem wg_fin (z:GQ):wgQ (.fin z)=rwQ z:=by
 unfold wgQ rwQ byA byB gint gnorm
 dsimp only
 rw [i1v,i0v]
 grind
theorem wg_inf:wgQ .inf=1:=of_decide_eq_true (by kernel_rfl:decide (wgQ .inf=1)=true)
theorem ch_eq (p q:Pt):chQ p q=rchQ p q:=by
 cases p with
 | inf=>cases q with
  | inf=>exact of_decide_eq_true (by kernel_rfl:decide (chQ .inf .inf=rchQ .inf .inf)=true)
  | fin w =>
   have e:gnorm (gacross .inf (.fin w))=1:=by
    unfold gacross byA byB gint gnorm gsub gmul
    dsimp only
    rw [i1v,i0v]
    grind
   show chQ .inf (.fin w)=r41/rwQ w
   unfold chQ
   rw [e,wg_inf,wg_fin,Rat.mul_one,Rat.one_mul]
 | fin z=>cases q with
  | inf =>
   have e:gnorm (gacross (.fin z) .inf)=1:=by
    unfold gacross byA byB gint gnorm gsub gmul
    dsimp only
    rw [i1v,i0v]
    grind
   show chQ (.fin z) .inf=r41/rwQ z
   unfold chQ
   rw [e,wg_inf,wg_fin,Rat.mul_one,Rat.mul_one]
  | fin w =>
   have e:gnorm (gacross (.fin z) (.fin w))=gnorm (gsub z w):=by
    unfold gacross byA byB gint gnorm gsub gmul
    dsimp only
    rw [i1v,i0v]
    grind
   show chQ (.fin z) (.fin w)=r41*gnorm (gsub z w)/(rwQ z*rwQ w)
   unfold chQ
   rw [e,wg_fin,wg_fin]
theorem pa_eq {p:Pt} (h:FitP p):SV.tup [.a (lsX (paC p)),.c (.b (.v (.int .i64 (paK p))))]=.tup [.a (pw p),nI' 0]:=by
 rw [paC_raw,(pa_fit h).1,(pa_fit h).2.1,(pa_fit h).2.2,paK_fit h]
def Iz (k:Nat) (x:Rat):Prop:=∃ u:Int,u.natAbs<256^k∧x=u
theorem Iz.mono {i k:Nat} {x:Rat} (h:Iz i x) (hk:i≤k):Iz k x:=by
 obtain ⟨u,h1,h2⟩:=h
 exact ⟨u,Nat.lt_of_lt_of_le h1 (Nat.pow_le_pow_right (by decide) hk),h2⟩
theorem Iz.mul {i j:Nat} {x y:Rat} (h:Iz i x) (k:Iz j y):Iz (i+j) (x*y):=by
 obtain ⟨u,h1,rfl⟩:=h
 obtain ⟨v,k1,rfl⟩:=k
 refine ⟨u*v,?_,(Rat.intCast_mul u v).symm⟩
 rw [Int.natAbs_mul,Nat.pow_add]
 exact Nat.mul_lt_mul'' h1 k1
theorem Iz.add {i:Nat} {x y:Rat} (h:Iz i x) (k:Iz i y):Iz (i+1) (x+y):=by
 obtain ⟨u,h1,rfl⟩:=h
 obtain ⟨v,k1,rfl⟩:=k
 refine ⟨u+v,?_,(Rat.intCast_add u v).symm⟩
 have:=Int.natAbs_add_le u v
 rw [Nat.pow_succ]
 omega
theorem Iz.neg {i:Nat} {x:Rat} (h:Iz i x):Iz i (-x):=by
 obtain ⟨u,h1,rfl⟩:=h
 exact ⟨-u,by rwa [Int.natAbs_neg],(Rat.intCast_neg u).symm⟩
theorem Iz.sub {i:Nat} {x y:Rat} (h:Iz i x) (k:Iz i y):Iz (i+1) (x-y):=by
 rw [Rat.sub_eq_add_neg]
 exact h.add k.neg
theorem iz_quo {k:Nat} {x y:Rat} (h:Iz k x) (k':Iz k y):Sz (k+1) (x*y⁻¹):=by
 obtain ⟨u,h1,rfl⟩:=h
 obtain ⟨v,k1,rfl⟩:=k'
 by_cases v0:v=0
 · subst v0
   rw [show ((0:Int):Rat)=0 from rfl,Rat.inv_zero,Rat.mul_zero]
   exact (sz_zero:Sz 1 0).mono (by omega)
 · have e:(u:Rat)*(v:Rat)⁻¹=Rat.divInt u v:=by rw [Rat.divInt_eq_div,Rat.div_def]
   rw [e]
   exact (sz_divInt v0 (sz_le.2 h1) (sz_le.2 k1)).mono (by omega)
theorem dn_iz {k:Nat} {x:Rat} (h:Sz k x):(Iz k (x.den:Rat)∧Iz k (x.num:Rat))∧(x.den:Rat)≠0∧x*(x.den:Rat)=x.num:=by
 have h1:x.num.natAbs<256^k:=sz_le.1 h.1
 have h2:((x.den:Int)).natAbs<256^k:=sz_le.1 h.2
 have h3:(x.den:Rat)≠0:=by
  intro e
  have:(x.den:Nat)=0:=by exact_mod_cast e
  exact x.den_nz this
 refine ⟨⟨⟨(x.den:Int),h2,rfl⟩,⟨x.num,h1,rfl⟩⟩,h3,?_⟩
 have e:=Rat.num_divInt_den x
 rw [Rat.divInt_eq_div] at e
 have e2:x=(x.num:Rat)/(x.den:Rat):=e.symm
 have e3:=Rat.div_mul_cancel (a:=(x.num:Rat)) h3
 rw [← e2] at e3
 exact e3
theorem gn_ne {w:GQ} (h:gzero w=false):gnorm w≠0:=by
 intro e
 have:=sq_sum (x:=w.re) (y:=w.im) e
 rw [gzero_iff.2 this] at h
 cases h
theorem iz2 {k:Nat} {z:GQ} (h:GSz k z):∃ D:Rat,D≠0∧Iz (k+k) D∧Iz (k+k) (z.re*D)∧Iz (k+k) (z.im*D):=by
 obtain ⟨⟨a1,b1⟩,c1,d1⟩:=dn_iz h.1
 obtain ⟨⟨a2,b2⟩,c2,d2⟩:=dn_iz h.2
 generalize (z.re.den:Rat)=p1 at *
 generalize (z.im.den:Rat)=p2 at *
 generalize (z.re.num:Rat)=q1 at *
 generalize (z.im.num:Rat)=q2 at *
 refine ⟨p1*p2,mul_ne c1 c2,a1.mul a2,?_,?_⟩
 · rw [show z.re*(p1*p2)=q1*p2 by rw [← d1]; grind]
   exact b1.mul a2
 · rw [show z.im*(p1*p2)=q2*p1 by rw [← d2]; grind]
   exact b2.mul a1
theorem quo_scale {x y s:Rat} (hy:y≠0) (hs:s≠0):x/y=(x*s)*(y*s)⁻¹:=by
 have h1:=Rat.mul_inv_cancel y hy
 have h2:=Rat.mul_inv_cancel s hs
 rw [Rat.inv_mul_rev,Rat.div_def]
 generalize y⁻¹=i at *
 generalize s⁻¹=j at *
 have:x*s*(j*i)=x*i*(s*j):=by grind
 rw [this,h2,Rat.mul_one]
theorem i4v:r41=4:=of_decide_eq_true (by kernel_rfl:decide (r41=4)=true)
theorem iz4c:Iz 1 r41:=⟨4,by decide,i4v⟩
theorem rw_iz {z:GQ} {D:Rat} {k:Nat} (hD:Iz k D) (h1:Iz k (z.re*D)) (h2:Iz k (z.im*D)):Iz (k+k+2) (rwQ z*(D*D)):=by
 have e:rwQ z*(D*D)=(z.re*D)*(z.re*D)+(z.im*D)*(z.im*D)+D*D:=by
  unfold rwQ gnorm
  rw [i1v]
  grind
 rw [e]
 exact ((h1.mul h1).add (h2.mul h2)).add ((hD.mul hD).mono (by omega))
theorem rch_fit {p q:Pt} (hp:PSz 80 p) (hq:PSz 80 q):Fit (rchQ p q):=by
 cases p with
 | inf=>cases q with
  | inf=>exact (Sz.small (n:=0) (by decide)).fit (by decide)
  | fin w =>
   obtain ⟨E,e0,e1,e2,e3⟩:=iz2 (z:=w) hq
   have h:rchQ .inf (.fin w)=r41*(E*E)*(rwQ w*(E*E))⁻¹:=quo_scale (rw_ne w) (mul_ne e0 e0)
   rw [h]
   exact (iz_quo ((iz4c.mul (e1.mul e1)).mono (k:=600) (by decide)) ((rw_iz e1 e2 e3).mono (by decide))).fit (by decide)
 | fin z=>cases q with
  | inf =>
   obtain ⟨E,e0,e1,e2,e3⟩:=iz2 (z:=z) hp
   have h:rchQ (.fin z) .inf=r41*(E*E)*(rwQ z*(E*E))⁻¹:=quo_scale (rw_ne z) (mul_ne e0 e0)
   rw [h]
   exact (iz_quo ((iz4c.mul (e1.mul e1)).mono (k:=600) (by decide)) ((rw_iz e1 e2 e3).mono (by decide))).fit (by decide)
  | fin w =>
   obtain ⟨D,d0,d1,d2,d3⟩:=iz2 (z:=z) hp
   obtain ⟨E,e0,e1,e2,e3⟩:=iz2 (z:=w) hq
   have h:rchQ (.fin z) (.fin w)=r41*gnorm (gsub z w)*(D*D*(E*E))*(rwQ z*rwQ w*(D*D*(E*E)))⁻¹:=quo_scale (mul_ne (rw_ne z) (rw_ne w)) (mul_ne (mul_ne d0 d0) (mul_ne e0 e0))
   have hN:r41*gnorm (gsub z w)*(D*D*(E*E))=r41*(((z.re*D)*E-(w.re*E)*D)*((z.re*D)*E-(w.re*E)*D)+((z.im*D)*E-(w.im*E)*D)*((z.im*D)*E-(w.im*E)*D)):=by
    unfold gnorm gsub
    grind
   have hM:rwQ z*rwQ w*(D*D*(E*E))=(rwQ z*(D*D))*(rwQ w*(E*E)):=by grind
   rw [h,hN,hM]
   have a1:=(d2.mul e1).sub (e2.mul d1)
   have a2:=(d3.mul e1).sub (e3.mul d1)
   have n1:=iz4c.mul ((a1.mul a1).add (a2.mul a2))
   have n2:=(rw_iz d1 d2 d3).mul (rw_iz e1 e2 e3)
   exact (iz_quo (n1.mono (k:=1000) (by decide)) (n2.mono (by decide))).fit (by decide)
abbrev sm72A (k:Nat):List SV:=[.one (.c (.b (.v (.int .i64 (k:Int))))),.one (.c (.b (.s 0 0 2 2)))]
theorem small72_ok (k:Nat) (p q:Rw) {b:Bool} (hb:(p.sm k&&q.sm k)=b) (β:Env) (w:World) (hh:(Ob.box (p.C++q.C) 39).holds β w (β 0)) :
  Calls Tryz.prog 21 ((sm72A k).map (SV.den β)).toArray w fun e w'=>e=.returned (.bool b)∧Below w.heap.size w w':=by
 cases h1:p.sm k with
 | false =>
  obtain rfl:b=false:=by rw [← hb,h1]; rfl
  exact bspec_ok [(sR4Small k p.x p.y h1).e] [] 800 Tryz.func21 hmA (fun β=>by kernel_rfl) (by kernel_rfl) (fun β=>rfl) β w hh
 | true =>
  rw [h1] at hb
  have h2:q.sm k=b:=hb
  cases b<;>exact bspec_ok [(sR4Small k p.x p.y h1).e,(sR4Small k q.x q.y h2).e] [] 800 Tryz.func21 hmA (fun β=>by kernel_rfl) (by kernel_rfl) (fun β=>rfl) β w hh
def sR7Small2 (k:Nat) (p q:Rw) {b:Bool} (hb:(p.sm k&&q.sm k)=b):BSpec Tryz.prog :=
 ⟨21,Tryz.call21,sm72A k,p.C++q.C,39,.bool b,small72_ok k p q hb,by kernel_rfl,fun _=>rfl⟩
theorem all72_ok (p q:Pp) {b:Bool} (hb:(p.B&&q.B)=b) (β:Env) (w:World) (hh:(Ob.box (p.w.C++q.w.C) 39).holds β w (β 0)) :
  Calls Tryz.prog 25 (([.one (.c (.b (.s 0 0 2 2)))]:List SV).map (SV.den β)).toArray w fun e w'=>e=.returned (.bool b)∧Below w.heap.size w w':=by
 cases h1:p.B with
 | false =>
  obtain rfl:b=false:=by rw [← hb,h1]; rfl
  exact bspec_ok [(sR7May p h1).e] [] 800 Tryz.func25 hmA (fun β=>by kernel_rfl) (by kernel_rfl) (fun β=>rfl) β w hh
 | true =>
  rw [h1] at hb
  have h2:q.B=b:=hb
  cases b<;>exact bspec_ok [(sR7May p h1).e,(sR7May q h2).e] [] 800 Tryz.func25 hmA (fun β=>by kernel_rfl) (by kernel_rfl) (fun β=>rfl) β w hh
def sR7All2 (p q:Pp) {b:Bool} (hb:(p.B&&q.B)=b):BSpec Tryz.prog :=
 ⟨25,Tryz.call25,[.one (.c (.b (.s 0 0 2 2)))],p.w.C++q.w.C,39,.bool b,all72_ok p q hb,by kernel_rfl,fun _=>rfl⟩
def sInv1 (x y:GQ):Spec Tryz.prog :=
 Spec.auto Tryz.call163 [nV 0,nV 2] (gM x++gM y) (.tup [nA 2,nA 0]) [] [] [(1,7002003)] 400 Tryz.func163 hmA (by kernel_rfl) (fun β=>by kernel_rfl)
def sAcr1S (x y:GQ):Spec Tryz.prog :=
 Spec.auto Tryz.call164 [nV 0,nV 2] (gM x++gM y) (.tup [nA 4,nA 6]) (gT (gneg y)++gT (gconj x)) [(sNeg y).e,(sConj x).e] [(1,4)] 400 Tryz.func164 hmA (by kernel_rfl) (fun β=>by kernel_rfl)
abbrev infA:SV:=.tup [.a (.b (.v (.bool true))::g0C),nI' 0]
section
variable {p:Pt} (hp:FitP p)
noncomputable def mvI0 (h0:gzero (byA p)=true):List (Ev Tryz.prog):=[(sSpotP p hp).e,(sBy p).e,(sInv1 (byA p) (byB p)).e,(sZero h0).e,sInfinity.e]
noncomputable def sMovInv0 (h0:gzero (byA p)=true):Spec Tryz.prog :=
 ⟨158,Tryz.call158,[svP p,fvV 163],[],infA,[],fun β w hh=>by
  cases p<;>exact spec_auto (args:=[svP _,fvV 163]) (obs:=[]) (evs:=mvI0 hp h0) (Ns:=[]) (m:=800) Tryz.func158 hmA (fun β=>by kernel_rfl) (by kernel_rfl) β w hh,by cases p<;>kernel_rfl⟩
end
section
variable {p:Pt} (hp:FitP p)
include hp in
theorem gdAcross_sz (h0:gzero (gconj (byA p))=false):GSz 10000 (gdiv (gneg (byB p)) (gconj (byA p))):=((((byB1 p).neg).mul (GSz.conj ((byA1 hp.sz).conj))).scale ((GSz.norm ((byA1 hp.sz).conj)).inv (gn_ne h0))).mono (by decide)
noncomputable def mvAcross1 (h0:gzero (gconj (byA p))=false):List (Ev Tryz.prog):=[(sSpotP p hp).e,(sBy p).e,(sAcr1S (byA p) (byB p)).e,(sZero h0).e,(sDiv (((byB1 p).neg).mono (by decide)) (((byA1 hp.sz).conj).mono (by decide)) h0).e,(sToldP (.fin (gdiv (gneg (byB p)) (gconj (byA p)))) ((gdAcross_sz hp h0).mono (by decide))).e]
noncomputable def sMovAcross (h0:gzero (gconj (byA p))=false):Spec Tryz.prog :=
 ⟨158,Tryz.call158,[svP p,fvV 164],[],.tup [.a (lsX (paC (.fin (gdiv (gneg (byB p)) (gconj (byA p)))))),.c (.b (.v (.int .i64 (paK (.fin (gdiv (gneg (byB p)) (gconj (byA p))))))))],[],fun β w hh=>by
  cases p<;>exact spec_auto (args:=[svP _,fvV 164]) (obs:=[]) (evs:=mvAcross1 hp h0) (Ns:=[]) (m:=800) Tryz.func158 hmA (fun β=>by kernel_rfl) (by kernel_rfl) β w hh,by cases p<;>kernel_rfl⟩
end
section
variable {p:Pt} (hp:FitP p)
noncomputable def sSInverse0 (h0:gzero (byA p)=true):Spec Tryz.prog :=
 Spec.auto Tryz.call32 [svP p] [] infA [] [(sMovInv0 hp h0).e] [] 400 Tryz.func32 hmA (by kernel_rfl) (fun β=>by kernel_rfl)
noncomputable def sSAcross (h0:gzero (gconj (byA p))=false):Spec Tryz.prog :=
 Spec.auto Tryz.call33 [svP p] [] (.tup [.a (lsX (paC (.fin (gdiv (gneg (byB p)) (gconj (byA p)))))),.c (.b (.v (.int .i64 (paK (.fin (gdiv (gneg (byB p)) (gconj (byA p))))))))]) [] [(sMovAcross hp h0).e] [] 400 Tryz.func33 hmA (by kernel_rfl) (fun β=>by kernel_rfl)
end
abbrev lfM (p:Pt):GQ:=gmul (byA p) (gconj (byB p))
abbrev lf2:Rat:=Rat.divInt 2 1
def lf1Q (p:Pt):Rat:=(lfM p).re*lf2/wgQ p
def lf2Q (p:Pt):Rat:=(lfM p).im*lf2/wgQ p
def lf3Q (p:Pt):Rat:=(gnorm (byA p)-gnorm (byB p))/wgQ p
theorem lf_lit {x:Rat} (h:Fit x):SV.tup [.a (fA x),nI' (ansK x)]=.tup [.a (fC x),nI' 0]:=by rw [(fA_fit h).1,(fA_fit h).2]
section
variable {p:Pt} (hp:FitP p)
include hp in
theorem lfM_sz:GSz 5000 (lfM p):=((byA1 hp.sz).mul (byB1 p).conj).mono (by decide)
include hp in
theorem lfN_sz:Sz 9000 (gnorm (byA p)-gnorm (byB p)):=((byA1 hp.sz).norm.sub (byB1 p).norm).mono (by decide)
noncomputable def lfF {x:Rat} {k:Nat} (hx:Sz k x) (hk:k≤10000) (hq:Fit (x/wgQ p)):List (Ev Tryz.prog) :=
 [(sWeigh hp.sz).e,rQuo (hx.mono (Nat.le_trans hk (by decide))) ((wg_sz hp.sz).mono (by decide)) (wg_ne p),((sFrac (x:=x/wgQ p) ((div_sz hx (wg_sz hp.sz) (wg_ne p)).mono (Nat.le_trans (Nat.add_le_add_right hk _) (by decide)))).conv (.tup [.a (fC (x/wgQ p)),nI' 0]) (lf_lit hq)).e]
noncomputable def lfE (h1:Fit (lf1Q p)) (h2:Fit (lf2Q p)) (h3:Fit (lf3Q p)):List (Ev Tryz.prog) :=
 [(sSpotP p hp).e,(sBy p).e,(sConj (byB p)).e,(sMul ((byA1 hp.sz).mono (by decide)) ((byB1 p).conj.mono (by decide))).e,(sParts (lfM p)).e,mkR,(sNorm ((byA1 hp.sz).mono (by decide))).e,(sNorm ((byB1 p).mono (by decide))).e,fSub ((byA1 hp.sz).norm.mono (by decide)) ((byB1 p).norm.mono (by decide)),
  nNew 2 1 (by decide) (by decide) (by decide),mkR,fMul ((lfM_sz hp).1.mono (by decide)) (n2_sz.mono (by decide)),mkR,fMul ((lfM_sz hp).2.mono (by decide)) (n2_sz.mono (by decide))] ++
  lfF hp (((lfM_sz hp).1.mul n2_sz)) (by decide) h1++lfF hp (((lfM_sz hp).2.mul n2_sz)) (by decide) h2++lfF hp (lfN_sz hp) (by decide) h3
noncomputable def sSLift (h1:Fit (lf1Q p)) (h2:Fit (lf2Q p)) (h3:Fit (lf3Q p)):Spec Tryz.prog :=
 ⟨34,Tryz.call34,[svP p],[],.tup [.a (fC (lf1Q p)++fC (lf2Q p)++fC (lf3Q p)),nI' 0],[],fun β w hh=>by
  cases p<;>exact spec_auto (args:=[svP _]) (obs:=[]) (evs:=lfE hp h1 h2 h3) (Ns:=[(5,10),(6,7)]) (m:=1200) Tryz.func34 hmA (fun β=>by kernel_rfl) (by kernel_rfl) β w hh,by cases p<;>kernel_rfl⟩
end
end Go.Proofs.YtdiemgedlfnlmaaGreat.Y
end
section
namespace Go.Proofs.YtdiemgedlfnlmaaGreat
open Go.Proofs.YtdiemgedlfnlmaaGreat.Y
open Go Go.RowKit
set_option maxRecDepth 100000
theorem run_eqI_cons {P:Program} {w:World} {d:Nat} {e:TypeId} {c:Nat} {xs ys:Array Value} {i:Nat} {is:List Nat} {a b:Value} {r s:Bool} (ha:(part e xs (i*c)).run P w=.ok a w) (hb:(part e ys (i*c)).run P w=.ok b w)
  (hr:(Op.equalIn d e a b).run P w=.ok r w) (hs:(Op.eqItems d e c xs ys is).run P w=.ok s w):(Op.eqItems d e c xs ys (i::is)).run P w=.ok (r&&s) w:=by
 unfold Op.eqItems
 simp only [Sem.run_bind,ha,hb,hr,Result.andThen_ok]
 cases r
 · rfl
 · simpa using hs
abbrev fr3A (x y z:R4):Array Value:=#[.bool x.b,.string x.s,.bool x.c,.string x.t,.bool y.b,.string y.s,.bool y.c,.string y.t,.bool z.b,.string z.s,.bool z.c,.string z.t]
abbrev fr1A (x:R4):Value:=.agg #[.bool x.b,.string x.s,.bool x.c,.string x.t]
theorem eqF3 {w:World} (d:Nat) (x y z x' y' z':R4):(Op.equalIn (d+4) 52 (.agg (fr3A x y z)) (.agg (fr3A x' y' z'))).run Tryz.prog w=.ok (x.eq x'&&(y.eq y'&&(z.eq z'&&true))) w:=by
 obtain ⟨i,hi⟩:∃ i,Tryz.prog.info? 25=some i:=Option.isSome_iff_exists.1 (by kernel_rfl)
 rw [run_equalIn_array (P:=Tryz.prog) (w:=w) (d:=d+3) (n:=3) (xs:=fr3A x y z) (ys:=fr3A x' y' z') (hu:=by kernel_rfl) (hi:=hi),show List.range 3=[0,1,2] from rfl]
 refine run_eqI_cons (a:=fr1A x) (b:=fr1A x') (by kernel_rfl) (by kernel_rfl) (eqF d _ _ _ _ _ _ _ _) ?_
 refine run_eqI_cons (a:=fr1A y) (b:=fr1A y') (by kernel_rfl) (by kernel_rfl) (eqF d _ _ _ _ _ _ _ _) ?_
 refine run_eqI_cons (a:=fr1A z) (b:=fr1A z') (by kernel_rfl) (by kernel_rfl) (eqF d _ _ _ _ _ _ _ _) ?_
 rfl
def eqEvF3 (x y z x' y' z':R4) (r:Bool) (h:(x.eq x'&&(y.eq y'&&(z.eq z'&&true)))=r):Ev Tryz.prog :=
 eqEv 52 (fr3A x y z) (fr3A x' y' z') r (by kernel_rfl) (fun w=>by rw [← h]; exact eqF3 9996 ..)
end Go.Proofs.YtdiemgedlfnlmaaGreat
end
section
namespace Go.Proofs.YtdiemgedlfnlmaaGreat.Y
open Go Go.RowKit
set_option maxRecDepth 100000
abbrev kq (n m:Int):Pt:=.fin (gint n m)
theorem kq_fit {n m:Int} (h:n.natAbs<256) (k:m.natAbs<256):FitP (kq n m):=fit_int h k
abbrev al3A:List SV:=[.one (.c (.b (.s 0 0 3 3)))]
abbrev al3L:List Lf:=pw (kq 1 0)++pw (kq 2 0)++pw (kq 1 0)
def AlikeT:Prop:=∀ (β:Env) (w:World),(Ob.box al3L PTT).holds β w (β 0)→Calls Tryz.prog 144 (al3A.map (SV.den β)).toArray w fun e w'=>e=.returned (.tuple #[.int .i64 0,.int .i64 2,.int .i64 0])∧Below w.heap.size w w'
def sAlike3 (h:AlikeT):BSpec Tryz.prog:=⟨144,Tryz.call144,al3A,al3L,PTT,.tuple #[.int .i64 0,.int .i64 2,.int .i64 0],h,by kernel_rfl,fun _=>rfl⟩
def sNum7 (k:Int):Spec Tryz.prog:=Spec.auto Tryz.call26 [.one (nI' k)] [] (.one (nI' k)) [] [] [] 400 Tryz.func26 hmA (by kernel_rfl) (fun β=>by kernel_rfl)
theorem k_ch:chQ (kq 1 0) (kq 0 1)=Rat.divInt 2 1:=of_decide_eq_true (by kernel_rfl:decide (chQ (kq 1 0) (kq 0 1)=Rat.divInt 2 1)=true)
theorem k_l1:lf1Q (kq 2 0)=Rat.divInt 4 5:=of_decide_eq_true (by kernel_rfl:decide (lf1Q (kq 2 0)=Rat.divInt 4 5)=true)
theorem k_l2:lf2Q (kq 2 0)=Rat.divInt 0 1:=of_decide_eq_true (by kernel_rfl:decide (lf2Q (kq 2 0)=Rat.divInt 0 1)=true)
theorem k_l3:lf3Q (kq 2 0)=Rat.divInt 3 5:=of_decide_eq_true (by kernel_rfl:decide (lf3Q (kq 2 0)=Rat.divInt 3 5)=true)
theorem k_ac:gdiv (gneg (byB (kq 1 0))) (gconj (byA (kq 1 0)))=gint (-1) 0:=GQ.ext2 (of_decide_eq_true (by kernel_rfl:decide ((gdiv (gneg (byB (kq 1 0))) (gconj (byA (kq 1 0)))).re=(gint (-1) 0).re)=true)) (of_decide_eq_true (by kernel_rfl:decide ((gdiv (gneg (byB (kq 1 0))) (gconj (byA (kq 1 0)))).im=(gint (-1) 0).im)=true))
theorem k_fit1 {x y:Rat} (e:x=y) (h:Fit y):SV.tup [.a (fA x),nI' (ansK x)]=.tup [.a (fC y),nI' 0]:=by rw [e,(fA_fit h).1,(fA_fit h).2]
theorem k_lift:SV.tup [.a (fC (lf1Q (kq 2 0))++fC (lf2Q (kq 2 0))++fC (lf3Q (kq 2 0))),nI' 0]=.tup [.a (fC (Rat.divInt 4 5)++fC (Rat.divInt 0 1)++fC (Rat.divInt 3 5)),nI' 0]:=by rw [k_l1,k_l2,k_l3]
theorem k_told {z w:GQ} (e:z=w) (h:FitG w):SV.tup [.a (lsX (paC (.fin z))),.c (.b (.v (.int .i64 (paK (.fin z)))))]=.tup [.a (pw (.fin w)),nI' 0]:=by rw [e]; exact pa_eq (p:=.fin w) h
theorem k45:Fit (Rat.divInt 4 5):=(sz_lit 4 5 (by decide) (by decide) (by decide)).fit (by decide)
theorem k35:Fit (Rat.divInt 3 5):=(sz_lit 3 5 (by decide) (by decide) (by decide)).fit (by decide)
theorem k01:Fit (Rat.divInt 0 1):=(Sz.small (n:=0) (by decide)).fit (by decide)
theorem k21:Fit (Rat.divInt 2 1):=(Sz.small (n:=2) (by decide)).fit (by decide)
theorem kz (n:Int) (h:n.natAbs<256):sz n≤1000000000:=Nat.le_trans (sz_small h) (by decide)
noncomputable def k7E (h:AlikeT):List (Ev Tryz.prog) :=
 [(sR7Int 0 0).e,(sSInverse0 (p:=kq 0 0) (kq_fit (n:=0) (m:=0) (by decide) (by decide)) rfl).e,(sR7Int 1 0).e,((sSAcross (p:=kq 1 0) (kq_fit (n:=1) (m:=0) (by decide) (by decide)) rfl).conv (.tup [.a (pw (kq (-1) 0)),nI' 0]) (k_told k_ac (kq_fit (n:=-1) (m:=0) (by decide) (by decide)))).e,
  (sR7Int 1 0).e,(sR7Int 0 1).e,((sSChord (p:=kq 1 0) (q:=kq 0 1) (kq_fit (n:=1) (m:=0) (by decide) (by decide)) (kq_fit (n:=0) (m:=1) (by decide) (by decide))).conv (.tup [.a (fC (Rat.divInt 2 1)),nI' 0]) (k_fit1 k_ch k21)).e,
  (sR7Int 2 0).e,((sSLift (p:=kq 2 0) (kq_fit (n:=2) (m:=0) (by decide) (by decide)) (k_l1▸k45) (k_l2▸k01) (k_l3▸k35)).conv (.tup [.a (fC (Rat.divInt 4 5)++fC (Rat.divInt 0 1)++fC (Rat.divInt 3 5)),nI' 0]) k_lift).e,
  (sR7Int 1 0).e,(sR7Int 2 0).e,(sR7Int 1 0).e,(sAlike3 h).e,
  sR7Inf.e,eqEvPt (ptB_iff.2 rfl:ptB .inf .inf=true),(sNum7 0).e,(sR7Int (-1) 0).e,eqEvPt (ptB_iff.2 rfl:ptB (kq (-1) 0) (kq (-1) 0)=true),(sNum7 0).e,(sR3Int 2 (by decide)).e,eqEvF (fR (Rat.divInt 2 1)) (fR (Rat.divInt 2 1)) true (R4.eq_iff.2 rfl),(sNum7 0).e,
  (sR3Small 4 5 (by decide) (by decide) (by decide) (kz 4 (by decide)) (kz 5 (by decide))).e,(sR3Int 0 (by decide)).e,(sR3Small 3 5 (by decide) (by decide) (by decide) (kz 3 (by decide)) (kz 5 (by decide))).e,
  eqEvF3 (fR (Rat.divInt 4 5)) (fR (Rat.divInt 0 1)) (fR (Rat.divInt 3 5)) (fR (Rat.divInt 4 5)) (fR (Rat.divInt 0 1)) (fR (Rat.divInt 3 5)) true (by rw [R4.eq_iff.2 rfl,R4.eq_iff.2 rfl,R4.eq_iff.2 rfl]; rfl),(sNum7 0).e,(sNum7 0).e,sInfinity.e,sR7Inf.e,eqEvPt (ptB_iff.2 rfl:ptB .inf .inf=true)]
noncomputable def sKnown7 (h:AlikeT):Spec Tryz.prog :=
 Spec.auto Tryz.call22 [] [] (tB' true) [] (k7E h) [(6,60)] 2000 Tryz.func22 hmA (by kernel_rfl) (fun β=>by kernel_rfl)
abbrev stA (p q:Pp):List SV:=[pwS p,pwS q]
abbrev stN:List (Nat × Nat):=[(7,26)]
section
variable (A:AlikeT)
noncomputable def st1 (p q:Pp) (h:(p.w.sm 80&&q.w.sm 80)=false):Spec Tryz.prog :=
 Spec.auto Tryz.call4 (stA p q) [] (tB' true) [] [(sR7Small2 80 p.w q.w h).e,(sKnown7 A).e] stN 1200 Tryz.func4 hmA (by kernel_rfl) (fun β=>by kernel_rfl)
noncomputable def st2 (p q:Pp) (h:(p.w.sm 80&&q.w.sm 80)=true) (n:(p.B&&q.B)=false):Spec Tryz.prog :=
 Spec.auto Tryz.call4 (stA p q) [] (tB' true) [] [(sR7Small2 80 p.w q.w h).e,(sSCmpNo p q n).e,(sSChordNo p q n).e,(sR7All2 p q n).e,(sNum7 2).e,eqEvF r40 r40 true (R4.eq_iff.2 rfl),(sNum7 2).e,(sKnown7 A).e] stN 1200 Tryz.func4 hmA (by kernel_rfl) (fun β=>by kernel_rfl)
variable {p q:Pt} (hp:FitP p) (hq:FitP q)
noncomputable def st3E (h:(p.w.sm 80&&q.w.sm 80)=true) (hx:Fit (rchQ p q)):List (Ev Tryz.prog) :=
 [(sR7Small2 80 p.w q.w h).e,(sSCmp hp hq).e,((sSChord hp hq).conv (.tup [.a (fC (rchQ p q)),nI' 0]) (k_fit1 (ch_eq p q) hx)).e,(sR7All2 (ppt p hp) (ppt q hq) (b:=true) (by cases p<;>cases q<;>rfl)).e,
  (sR7Cmp hp hq).e,.eqv 56 (.bool (ordI p q==ordI p q)) (.bool true) (ieq_self _),(sNum7 0).e,(sR7Chord hp hq).e,eqEvF (fR (rchQ p q)) (fR (rchQ p q)) true (R4.eq_iff.2 rfl),(sNum7 0).e,(sKnown7 A).e]
noncomputable def st3 (h:(p.w.sm 80&&q.w.sm 80)=true) (hx:Fit (rchQ p q)):Spec Tryz.prog :=
 ⟨4,Tryz.call4,[svP p,svP q],[],tB' true,[],fun β w hh=>by
  cases p<;>cases q<;>exact spec_auto (args:=[svP _,svP _]) (obs:=[]) (evs:=st3E A hp hq h hx) (Ns:=stN) (m:=1200) Tryz.func4 hmA (fun β=>by kernel_rfl) (by kernel_rfl) β w hh,by cases p<;>cases q<;>kernel_rfl⟩
end
end Go.Proofs.YtdiemgedlfnlmaaGreat.Y
end
