/- EyB, EyC, EyD, EyE, MayP, Rs4, Pts, Alg, Rs7, Rs10, Nrm, EyF, Rs8, MoA, TxB, MoD, MoC, CkM. -/
import Derived.Test.YtbepimnlleilfaaGreatNk10
set_option linter.unnecessarySimpa false
set_option linter.unusedVariables false
set_option linter.unusedSimpArgs false
section
namespace Go.Proofs.YtbepimnlleilfaaGreat.Y
open Go Go.RowKit
set_option maxRecDepth 100000
abbrev lsX (l:List Lf):List Lf:=l
def Spec.ofX {P:Program} (S:Spec P) (ho:S.obs=[]) (hn:S.news=[]):Spec P:=S
def BY (n:Int) (w:World) (g:Pl):Prop:=(∀ c,g.F c↔c=g.b)∧Byt w (.slice (some ⟨g.b,0,none⟩) (led n.natAbs).length (led n.natAbs).length) (led n.natAbs).reverse
theorem by_stable (n:Int):Stable (BY n) :=
 ⟨fun w g ⟨h,k⟩ c hc=>by rw [(h c).1 hc]; exact k.open_.2.2.1,fun w w' g ⟨h,k⟩ hb=>⟨h,k.on hb⟩,
  fun w w' g b o m n ⟨h,k⟩ hs ht hne=>⟨h,by
   obtain ⟨h0,b',cap,cs,t,fr,h1,h2,h3⟩:=k
   have hb:g.b=b':=by injection h1 with h1 _ _; cases Option.some.inj h1; rfl
   subst hb
   exact ⟨h0,g.b,cap,cs,t,fr,h1,by rw [ht.block g.b (qZ6 h2) fun e=>hne ((h b).2 e.symm)]; exact h2,h3⟩⟩⟩
def bytT (n:Int):Thing:=thing (BY n) (by_stable n)
theorem extE_s (β:Env) (n a b:Nat) (g:Pl):(SV.one (.c (.b (.s n 0 a b)))).den (extE β n [g])=.slice (some ⟨g.b,0,none⟩) a b:=by
 have:=qX7 (β:=β) (n:=n) (i:=0) (xs:=[g]) rfl
 rw [Nat.add_zero] at this
 simp only [SV.den,SC.den,Lf.den,Lf0.den,this]
def nBytes {n:Int} (hn:sz n≤KB):Ev Tryz.prog:=dyn1 fun k m=>.call 266 Tryz.call266 (fun β=>#[.pointer ((β k).v 0)]) [(k,(intT n).ob)] m (.one (.c (.b (.s m 0 (led n.natAbs).length (led n.natAbs).length)))) [bytT n] (fun β w h=>by
 obtain ⟨a,ha,ka⟩:=needI (n:=n) (k:=k) h (by simp)
 simp only [ha.1]
 refine (Bytes_at ka (okn_sz hn)).mono fun e w' ⟨g,he,h1,h2,h3⟩=>⟨[newPl g],fun x hx c hc=>?_,by rw [he,extE_s]; rfl,⟨⟨fun _=>Iff.rfl,h2⟩,trivial⟩,h3⟩
 obtain rfl:=List.mem_singleton.1 hx
 rw [((qW9 g).1 c).1 hc]
 exact .inl h1)
def slOf:SV→Nat
 | .one (.c (.b (.s k _ _ _)))=>k
 | _=>0
def rdStr (d t:Nat) (n:Int) (k:Nat):Ev Tryz.prog:=.rd d (.convert 306 9 (.tmp t)) (fun β=>[.slice (some ⟨(β k).b,0,none⟩) (led n.natAbs).length (led n.natAbs).length]) [(k,(bytT n).ob)] 0 (.one (.c (.b (.v (.string (mag n.natAbs)))))) [] (fun β w h ρ o ho hx=>by
 have h1:BY n w (β k):=h (k,(bytT n).ob) (by simp)
 have h2:ρ (.tmp t)=.slice (some ⟨(β k).b,0,none⟩) (led n.natAbs).length (led n.natAbs).length:=by simpa [Op.operands] using hx
 refine ⟨[],w,(fun _ h=>by cases h),?_,trivial,Below.refl _ _⟩
 unfold execOp
 rw [ho]
 simp only [h2]
 have h3:=zW5 h1.2
 simp [go_sem,h3]
 rfl)
def dStr (n:Int):Ev Tryz.prog:=.dyn (fun o _ _=>match o.op with
 | .convert a b (.tmp _)=>Nat.beq a 306&&Nat.beq b 9
 | _=>false) fun o xs _=>match o.op with
 | .convert _ _ (.tmp t)=>lit (slOf (xs.getD 0 qK7)) fun k=>rdStr (o.dst.getD 0) t n k
 | _=>.eqv 0 undef undef rfl
theorem frac_ok {x:Rat} (hx:Sz KB x) (β:Env) (w:World) (hh:∀ (k:Nat) (t:Thing),[ratM x][k]?=some t→t.D w (β k)) :
  Calls Tryz.prog 202 (([rV 0]:List SV).map (SV.den β)).toArray w fun e w'=>∃ xs:List Pl,qK2 β w 1 xs∧e=.returned ((SV.tup [.a [.b (.v (.bool (ansB x))),.b (.v (.string (ansS x))),.b (.v (.bool false)),.b (.v (.string (ansD x)))],.c (.b (.v (.int .i64 (ansK x))))]).den (extE β 1 xs))∧qZ0 w' [] xs∧Below w.heap.size w w':=by
 cases h1:decide (1024<sz x.num) with
 | true =>
  have hf:¬ Fit x:=fun h=>by have:=of_decide_eq_true h1; have:=h.1; unfold sz at *; omega
  rw [show ansB x=false from if_neg hf,show ansS x=⟨#[]⟩ from if_neg hf,show ansD x=⟨#[]⟩ from if_neg hf,show ansK x=4 from if_neg hf]
  exact qQ1 (obs:=[ratM x]) (Ns:=[(5,10)]) (m:=400) (evs:=[(sRat x).e,nNum x,nBytes (n:=x.num) (Nat.le_trans hx.1 (by decide)),nDenom x,nBytes (n:=(x.den:Int)) (Nat.le_trans hx.2 (by decide)),.eqv 16 (.bool (decide ((1024:Int)<((led x.num.natAbs).length:Int)))) (.bool true) (led_gt h1)]) Tryz.func202 hmA (fun β=>by kernel_rfl) (by kernel_rfl) β w hh
 | false=>cases h2:decide (1024<sz (x.den:Int)) with
 | true =>
  have hf:¬ Fit x:=fun h=>by have:=of_decide_eq_true h2; have:=h.2; unfold sz at *; rw [Int.natAbs_natCast] at *; omega
  rw [show ansB x=false from if_neg hf,show ansS x=⟨#[]⟩ from if_neg hf,show ansD x=⟨#[]⟩ from if_neg hf,show ansK x=4 from if_neg hf]
  exact qQ1 (obs:=[ratM x]) (Ns:=[(5,10)]) (m:=400) (evs:=[(sRat x).e,nNum x,nBytes (n:=x.num) (Nat.le_trans hx.1 (by decide)),nDenom x,nBytes (n:=(x.den:Int)) (Nat.le_trans hx.2 (by decide)),.eqv 16 (.bool (decide ((1024:Int)<((led x.num.natAbs).length:Int)))) (.bool false) (led_gt h1),.eqv 20 (.bool (decide ((1024:Int)<((led (x.den:Int).natAbs).length:Int)))) (.bool true) (led_gt h2)]) Tryz.func202 hmA (fun β=>by kernel_rfl) (by kernel_rfl) β w hh
 | false =>
  have hf:Fit x:=⟨by have:=of_decide_eq_false h1; unfold sz at *; omega,by have:=of_decide_eq_false h2; unfold sz at *; rw [Int.natAbs_natCast] at *; omega⟩
  rw [show ansB x=decide (x.num<0) from if_pos hf,show ansS x=mag x.num.natAbs from if_pos hf,show ansD x=mag (x.den:Int).natAbs from if_pos hf,show ansK x=0 from if_pos hf]
  exact qQ1 (obs:=[ratM x]) (Ns:=[(5,10)]) (m:=400) (evs:=[(sRat x).e,nNum x,nBytes (n:=x.num) (Nat.le_trans hx.1 (by decide)),nDenom x,nBytes (n:=(x.den:Int)) (Nat.le_trans hx.2 (by decide)),.eqv 16 (.bool (decide ((1024:Int)<((led x.num.natAbs).length:Int)))) (.bool false) (led_gt h1),.eqv 20 (.bool (decide ((1024:Int)<((led (x.den:Int).natAbs).length:Int)))) (.bool false) (led_gt h2),nSign (x:=x) rfl,.eqv 25 (.bool (decide (x.num.sign<0))) (.bool (decide (x.num<0))) sign_lt,dStr x.num,dStr (x.den:Int)]) Tryz.func202 hmA (fun β=>by kernel_rfl) (by kernel_rfl) β w hh
noncomputable def sFrac {x:Rat} (hx:Sz KB x):Spec Tryz.prog :=
 ⟨202,Tryz.call202,[rV 0],[ratM x],(SV.tup [.a [.b (.v (.bool (ansB x))),.b (.v (.string (ansS x))),.b (.v (.bool false)),.b (.v (.string (ansD x)))],.c (.b (.v (.int .i64 (ansK x))))]),[],frac_ok hx,by kernel_rfl⟩
def AN (w:World) (g:Pl):Prop:=∀ c,g.F c→c<w.heap.size
theorem an_stable:Stable AN :=
 ⟨fun w g h=>h,fun w w' g h hb c hc=>Nat.lt_of_lt_of_le (h c hc) hb.size,fun w w' g b o m n h hs ht hne c hc=>Nat.lt_of_lt_of_le (h c hc) (ht.below (B:=0) (Nat.zero_le _) (Nat.zero_le _)).size⟩
def anyT:Thing:=⟨AN,an_stable,0,AN,an_stable,fun _ _ h=>h,true,fun _ _ _ h=>h.elim,true,fun _ _ _ h=>h.elim,false,fun h=>(Bool.noConfusion h),false,fun h=>(Bool.noConfusion h)⟩
theorem an_of {D:World→Pl→Prop} (st:Stable D) {w:World} {g:Pl} (h:D w g):AN w g:=st.lt w g h
def qV2 (b:Bool) (s:ByteArray) (r:Bool) (hr:r=true↔qV6 b s):Ev Tryz.prog:=.ret 355 Tryz.call355 #[.agg #[.bool b,.string s]] _ (fun w=>exformed_any b s r hr)
def exWhole (b:Bool) (s:ByteArray) (hs:s.size≤4294967296) (x:Int) (hx:qJ6 b s=x):Ev Tryz.prog:=dyn1 fun _ n=>.call 356 Tryz.call356 (fun _=>#[.agg #[.bool b,.string s]]) [] n (.one (.c (.b (.z n 0)))) [intT x] (fun β w _=>one_int (by rw [← hx]; exact exwhole_any b s hs) β n _)
theorem ratNo_ok {b c:Bool} {s t:ByteArray} (h:¬ zZ5 (rawV b c s t)) (β:Env) (w:World) (hh:∀ (k:Nat) (t:Thing),([]:List Thing)[k]?=some t→t.D w (β k)):Calls Tryz.prog 301 (([.one (.a [.b (.v (.bool b)),.b (.v (.string s)),.b (.v (.bool c)),.b (.v (.string t))])]:List SV).map (SV.den β)).toArray w fun e w'=>∃ xs:List Pl,qK2 β w 0 xs∧e=.returned ((SV.one (.c (.b (.v (.pointer none))))).den (extE β ([]:List Thing).length xs))∧qZ0 w' [] xs∧Below w.heap.size w w':=by
 obtain ⟨r1,h1⟩:=formedB_dec b s
 obtain ⟨r2,h2⟩:=formedB_dec c t
 cases r1 with
 | false=>exact zK3 (args:=[.one (.a [.b (.v (.bool b)),.b (.v (.string s)),.b (.v (.bool c)),.b (.v (.string t))])]) (obs:=[]) (idx:=[]) (Ns:=[]) (m:=400) (evs:=[qV2 b s false h1]) Tryz.func301 hmA (fun β=>by kernel_rfl) (by kernel_rfl) β w hh
 | true=>cases r2 with
 | false=>exact zK3 (args:=[.one (.a [.b (.v (.bool b)),.b (.v (.string s)),.b (.v (.bool c)),.b (.v (.string t))])]) (obs:=[]) (idx:=[]) (Ns:=[]) (m:=400) (evs:=[qV2 b s true h1,qV2 c t false h2]) Tryz.func301 hmA (fun β=>by kernel_rfl) (by kernel_rfl) β w hh
 | true=>cases c with
 | true=>exact zK3 (args:=[.one (.a [.b (.v (.bool b)),.b (.v (.string s)),.b (.v (.bool true)),.b (.v (.string t))])]) (obs:=[]) (idx:=[]) (Ns:=[]) (m:=400) (evs:=[qV2 b s true h1,qV2 true t true h2]) Tryz.func301 hmA (fun β=>by kernel_rfl) (by kernel_rfl) β w hh
 | false=>cases h4:decide (t.size=0) with
 | true=>exact zK3 (args:=[.one (.a [.b (.v (.bool b)),.b (.v (.string s)),.b (.v (.bool false)),.b (.v (.string t))])]) (obs:=[]) (idx:=[]) (Ns:=[]) (m:=400) (evs:=[qV2 b s true h1,qV2 false t true h2,.eqv 25 (.bool (t.toList==(⟨#[]⟩:ByteArray).toList)) (.bool true) (eq_empty h4)]) Tryz.func301 hmA (fun β=>by kernel_rfl) (by kernel_rfl) β w hh
 | false=>cases h5:decide (1024<s.size) with
 | true=>exact zK3 (args:=[.one (.a [.b (.v (.bool b)),.b (.v (.string s)),.b (.v (.bool false)),.b (.v (.string t))])]) (obs:=[]) (idx:=[]) (Ns:=[]) (m:=400) (evs:=[qV2 b s true h1,qV2 false t true h2,.eqv 25 (.bool (t.toList==(⟨#[]⟩:ByteArray).toList)) (.bool false) (eq_empty h4),.eqv 32 (.bool (decide ((1024:Int)<(s.size:Int)))) (.bool true) (len_gt h5)]) Tryz.func301 hmA (fun β=>by kernel_rfl) (by kernel_rfl) β w hh
 | false=>cases h6:decide (1024<t.size) with
 | true=>exact zK3 (args:=[.one (.a [.b (.v (.bool b)),.b (.v (.string s)),.b (.v (.bool false)),.b (.v (.string t))])]) (obs:=[]) (idx:=[]) (Ns:=[]) (m:=400) (evs:=[qV2 b s true h1,qV2 false t true h2,.eqv 25 (.bool (t.toList==(⟨#[]⟩:ByteArray).toList)) (.bool false) (eq_empty h4),.eqv 32 (.bool (decide ((1024:Int)<(s.size:Int)))) (.bool false) (len_gt h5),.eqv 39 (.bool (decide ((1024:Int)<(t.size:Int)))) (.bool true) (len_gt h6)]) Tryz.func301 hmA (fun β=>by kernel_rfl) (by kernel_rfl) β w hh
 | false =>
  obtain ⟨n,e1⟩:∃ n,qJ6 b s=n:=⟨_,rfl⟩
  obtain ⟨d,e2⟩:∃ d,qJ6 false t=d:=⟨_,rfl⟩
  have l1:s.size≤1024:=by have:=of_decide_eq_false h5; omega
  have l2:t.size≤1024:=by have:=of_decide_eq_false h6; omega
  have l0:=of_decide_eq_false h4
  obtain ⟨f1,f2⟩:=zW0 (h1.1 rfl)
  obtain ⟨f3,f4⟩:=zW0 (h2.1 rfl)
  rw [e1] at f1 f2
  rw [e2] at f3 f4
  have z1:s.size≤4294967296:=by omega
  have z2:t.size≤4294967296:=by omega
  have h0:d≠0:=by
   rintro rfl
   have:sz 0=0:=Nat.le_zero.1 (sz_le.2 (by decide))
   unfold sz at this
   rw [f4] at this
   exact l0 this
  have k1:sz n≤KB:=by unfold sz; rw [f2]; exact Nat.le_trans l1 (by decide)
  have k2:sz d≤KB:=by unfold sz; rw [f4]; exact Nat.le_trans l2 (by decide)
  cases h7:decide ((Rat.divInt n d).num=n) with
  | false=>exact zK3 (args:=[.one (.a [.b (.v (.bool b)),.b (.v (.string s)),.b (.v (.bool false)),.b (.v (.string t))])]) (obs:=[]) (idx:=[]) (Ns:=[]) (m:=400) (evs:=[qV2 b s true h1,qV2 false t true h2,.eqv 25 (.bool (t.toList==(⟨#[]⟩:ByteArray).toList)) (.bool false) (eq_empty h4),.eqv 32 (.bool (decide ((1024:Int)<(s.size:Int)))) (.bool false) (len_gt h5),.eqv 39 (.bool (decide ((1024:Int)<(t.size:Int)))) (.bool false) (len_gt h6),exWhole b s z1 n e1,exWhole false t z2 d e2,mkR,fSetFrac h0 k1 k2,nNum (Rat.divInt n d),nIntCmp (a:=(Rat.divInt n d).num) (b:=n) rfl,.eqv 55 (.bool (cmpI (Rat.divInt n d).num n != 0)) (.bool true) (cmp_ne h7)]) Tryz.func301 hmA (fun β=>by kernel_rfl) (by kernel_rfl) β w hh
  | true=>cases h8:decide (((Rat.divInt n d).den:Int)=d) with
  | false=>exact zK3 (args:=[.one (.a [.b (.v (.bool b)),.b (.v (.string s)),.b (.v (.bool false)),.b (.v (.string t))])]) (obs:=[]) (idx:=[]) (Ns:=[]) (m:=400) (evs:=[qV2 b s true h1,qV2 false t true h2,.eqv 25 (.bool (t.toList==(⟨#[]⟩:ByteArray).toList)) (.bool false) (eq_empty h4),.eqv 32 (.bool (decide ((1024:Int)<(s.size:Int)))) (.bool false) (len_gt h5),.eqv 39 (.bool (decide ((1024:Int)<(t.size:Int)))) (.bool false) (len_gt h6),exWhole b s z1 n e1,exWhole false t z2 d e2,mkR,fSetFrac h0 k1 k2,nNum (Rat.divInt n d),nIntCmp (a:=(Rat.divInt n d).num) (b:=n) rfl,.eqv 55 (.bool (cmpI (Rat.divInt n d).num n != 0)) (.bool false) (cmp_ne h7),nDenom (Rat.divInt n d),nIntCmp (a:=((Rat.divInt n d).den:Int)) (b:=d) rfl,.eqv 61 (.bool (cmpI ((Rat.divInt n d).den:Int) d != 0)) (.bool true) (cmp_ne h8)]) Tryz.func301 hmA (fun β=>by kernel_rfl) (by kernel_rfl) β w hh
  | true =>
   refine absurd ?_ h
   refine isFrac_doc.2 ⟨⟨l1,l2⟩,h1.1 rfl,h2.1 rfl,?_,?_⟩
   · rw [e2,← of_decide_eq_true h8]
     exact Int.natCast_pos.2 (Rat.divInt n d).den_pos
   · rw [e1,e2]
     have:=(Rat.divInt n d).reduced
     rw [of_decide_eq_true h7] at this
     have h9:(Rat.divInt n d).den=d.natAbs:=by have:=of_decide_eq_true h8; omega
     rw [h9] at this
     exact this
def sRatNo {b c:Bool} {s t:ByteArray} (h:¬ zZ5 (rawV b c s t)):Spec Tryz.prog :=
 ⟨301,Tryz.call301,[.one (.a [.b (.v (.bool b)),.b (.v (.string s)),.b (.v (.bool c)),.b (.v (.string t))])],[],(SV.one (.c (.b (.v (.pointer none))))),[],ratNo_ok h,by kernel_rfl⟩
theorem ratIn_ok {x:Rat} (hx:Fit x) (β:Env) (w:World) (hh:∀ (k:Nat) (t:Thing),([]:List Thing)[k]?=some t→t.D w (β k)):Calls Tryz.prog 301 (([.one (.a [.b (.v (.bool (decide (x.num<0)))),.b (.v (.string (mag x.num.natAbs))),.b (.v (.bool false)),.b (.v (.string (mag x.den)))])]:List SV).map (SV.den β)).toArray w fun e w'=>∃ xs:List Pl,qK2 β w 0 xs∧e=.returned ((SV.one (.c (.b (.z 0 0)))).den (extE β ([]:List Thing).length xs))∧qZ0 w' [ratT x] xs∧Below w.heap.size w w':=by
 obtain ⟨n,en⟩:∃ n,x.num=n:=⟨_,rfl⟩
 obtain ⟨d,ed⟩:∃ d:Int,(x.den:Int)=d:=⟨_,rfl⟩
 have hxe:x=Rat.divInt n d:=by rw [← en,← ed,Rat.num_divInt_den]
 obtain ⟨b,eb⟩:∃ b,decide (x.num<0)=b:=⟨_,rfl⟩
 obtain ⟨s,es⟩:∃ s,mag x.num.natAbs=s:=⟨_,rfl⟩
 obtain ⟨t,et⟩:∃ t,mag x.den=t:=⟨_,rfl⟩
 have e1:qJ6 b s=n:=by rw [← eb,← es,← en]; exact zV6 x.num
 have e2:qJ6 false t=d:=by
  have:=zV6 (x.den:Int)
  rw [show decide ((x.den:Int)<0)=false by simp,Int.natAbs_natCast] at this
  rw [← et,← ed]; exact this
 obtain ⟨⟨l1,l2⟩,q1,q2,q3,_⟩:=isFrac_doc.1 (fitF x hx)
 rw [eb,es] at q1
 rw [et] at q2 q3
 rw [es] at l1
 rw [et] at l2
 rw [e2] at q3
 have h1:true=true↔qV6 b s:=qK5 q1
 have h2:true=true↔qV6 false t:=qK5 q2
 have h4:decide (t.size=0)=false:=decide_eq_false fun h=>by
  obtain rfl:=qY7 h
  rw [show qJ6 false ⟨#[]⟩=0 from rfl] at e2
  omega
 have h5:decide (1024<s.size)=false:=decide_eq_false (by omega)
 have h6:decide (1024<t.size)=false:=decide_eq_false (by omega)
 have z1:s.size≤4294967296:=by omega
 have z2:t.size≤4294967296:=by omega
 have h0:d≠0:=by omega
 have k1:sz n≤KB:=by rw [← en]; unfold sz; rw [es]; exact Nat.le_trans l1 (by decide)
 have k2:sz d≤KB:=by rw [← ed]; unfold sz; rw [Int.natAbs_natCast,et]; exact Nat.le_trans l2 (by decide)
 have h7:decide ((Rat.divInt n d).num=n)=true:=decide_eq_true (by rw [← hxe]; exact en)
 have h8:decide (((Rat.divInt n d).den:Int)=d)=true:=decide_eq_true (by rw [← hxe]; exact ed)
 rw [eb,es,et]
 clear eb es et
 subst hxe
 exact zK3 (args:=[.one (.a [.b (.v (.bool b)),.b (.v (.string s)),.b (.v (.bool false)),.b (.v (.string t))])]) (obs:=[]) (idx:=[4]) (Ns:=[]) (m:=400) (evs:=[qV2 b s true h1,qV2 false t true h2,.eqv 25 (.bool (t.toList==(⟨#[]⟩:ByteArray).toList)) (.bool false) (eq_empty h4),.eqv 32 (.bool (decide ((1024:Int)<(s.size:Int)))) (.bool false) (len_gt h5),.eqv 39 (.bool (decide ((1024:Int)<(t.size:Int)))) (.bool false) (len_gt h6),exWhole b s z1 n e1,exWhole false t z2 d e2,mkR,fSetFrac h0 k1 k2,nNum (Rat.divInt n d),nIntCmp (a:=(Rat.divInt n d).num) (b:=n) rfl,.eqv 55 (.bool (cmpI (Rat.divInt n d).num n != 0)) (.bool false) (cmp_ne h7),nDenom (Rat.divInt n d),nIntCmp (a:=((Rat.divInt n d).den:Int)) (b:=d) rfl,.eqv 61 (.bool (cmpI ((Rat.divInt n d).den:Int) d != 0)) (.bool false) (cmp_ne h8)]) Tryz.func301 hmA (fun β=>by kernel_rfl) (by kernel_rfl) β w hh
def sRatIn {x:Rat} (hx:Fit x):Spec Tryz.prog :=
 ⟨301,Tryz.call301,[.one (.a [.b (.v (.bool (decide (x.num<0)))),.b (.v (.string (mag x.num.natAbs))),.b (.v (.bool false)),.b (.v (.string (mag x.den)))])],[],(.one (.c (.b (.z 0 0)))),[ratT x],ratIn_ok hx,by kernel_rfl⟩
def rdNe (d t:Nat) (x:Rat) (k:Nat):Ev Tryz.prog:=.rd d (.binOp .neq 153 (.tmp t) (.const (.pointer none)) 153) (fun β=>[.pointer ((β k).v 0),.pointer none]) [(k,(ratT x).ob)] 0 (.one (.c (.b (.v (.bool true))))) [] (fun β w h ρ o ho hx=>by
 obtain ⟨a,ha,ka⟩:=needP (x:=x) (k:=k) h (by simp)
 have h2:ρ (.tmp t)=.pointer (some ⟨a,0,none⟩)∧ρ (.const (.pointer none))=.pointer none:=by
  rw [ha.1] at hx
  simpa [Op.operands] using hx
 refine ⟨[],w,(fun _ h=>by cases h),?_,trivial,Below.refl _ _⟩
 unfold execOp
 rw [ho]
 simp only [h2.1,h2.2]
 kernel_rfl)
def dNe (x:Rat):Ev Tryz.prog:=.dyn (fun o _ _=>match o.op with
 | .binOp .neq a (.tmp _) (.const (.pointer none)) _=>Nat.beq a 153
 | _=>false) fun o xs _=>match o.op with
 | .binOp _ _ (.tmp t) _ _=>lit (ptOf (xs.getD 0 qK7)) fun k=>rdNe (o.dst.getD 0) t x k
 | _=>.eqv 0 undef undef rfl
def fpC (a:Fp):List Lf:=lsX a.C
def ofT:Fp→Fp→List Thing
 | .ok x _,.ok y _=>[ratT x,ratT y]
 | _,_=>[anyT,anyT]
theorem sOf_ok (a b:Fp) (β:Env) (w:World) (hh:∀ (k:Nat) (t:Thing),([]:List Thing)[k]?=some t→t.D w (β k)) :
  Calls Tryz.prog 204 (([.one (.a (fpC a++fpC b))]:List SV).map (SV.den β)).toArray w fun e w'=>∃ xs:List Pl,qK2 β w 0 xs∧e=.returned ((SV.tup [nA 0,.c (.b (.v (.bool (a.B&&b.B))))]).den (extE β 0 xs))∧qZ0 w' (ofT a b) xs∧Below w.heap.size w w':=by
 cases a with
 | ok x hx=>cases b with
  | ok y hy=>exact qQ1 (obs:=[]) (evs:=[(sRatIn hx).e,(sRatIn hy).e,dNe x,dNe y]) (Ns:=[]) (m:=400) Tryz.func204 hmA (fun β=>by kernel_rfl) (by kernel_rfl) β w hh
  | no b' c s t h hs ht =>
   refine (qQ1 (args:=[.one (.a (fpC (.ok x hx)++fpC (.no b' c s t h hs ht)))]) (obs:=[]) (res:=SV.tup [.a [.b (.z 0 0),.b (.v (.pointer none))],.c (.b (.v (.bool false)))]) (news:=[ratT x]) (evs:=[(sRatIn hx).e,(sRatNo h).e,dNe x]) (Ns:=[]) (m:=400) Tryz.func204 hmA (fun β=>by kernel_rfl) (by kernel_rfl) β w hh).mono fun e w' ⟨xs,h1,he,h2,h3⟩=>?_
   match xs,h1,he,h2 with
   | [p],h1,he,h2=>exact ⟨[p,nilPl],fun x hx c hc=>by
     rcases List.mem_cons.1 hx with rfl | hx
     · exact h1 _ (by simp) c hc
     · obtain rfl:=List.mem_singleton.1 hx
       exact hc.elim,he,⟨an_of (zQ9 x) h2.1,fun _ h=>h.elim,trivial⟩,h3⟩
 | no b' c s t h hs ht=>cases b with
  | ok y hy =>
   refine (qQ1 (args:=[.one (.a (fpC (.no b' c s t h hs ht)++fpC (.ok y hy)))]) (obs:=[]) (res:=SV.tup [.a [.b (.v (.pointer none)),.b (.z 0 0)],.c (.b (.v (.bool false)))]) (news:=[ratT y]) (evs:=[(sRatNo h).e,(sRatIn hy).e]) (Ns:=[]) (m:=400) Tryz.func204 hmA (fun β=>by kernel_rfl) (by kernel_rfl) β w hh).mono fun e w' ⟨xs,h1,he,h2,h3⟩=>?_
   match xs,h1,he,h2 with
   | [p],h1,he,h2=>exact ⟨[nilPl,p],fun x hx c hc=>by
     rcases List.mem_cons.1 hx with rfl | hx
     · exact hc.elim
     · obtain rfl:=List.mem_singleton.1 hx
       exact h1 _ (by simp) c hc,he,⟨fun _ h=>h.elim,an_of (zQ9 y) h2.1,trivial⟩,h3⟩
  | no b'' c' s' t' h' hs' ht' =>
   refine (qQ1 (args:=[.one (.a (fpC (.no b' c s t h hs ht)++fpC (.no b'' c' s' t' h' hs' ht')))]) (obs:=[]) (res:=SV.tup [.a [.b (.v (.pointer none)),.b (.v (.pointer none))],.c (.b (.v (.bool false)))]) (news:=[]) (evs:=[(sRatNo h).e,(sRatNo h').e]) (Ns:=[]) (m:=400) Tryz.func204 hmA (fun β=>by kernel_rfl) (by kernel_rfl) β w hh).mono fun e w' ⟨xs,h1,he,h2,h3⟩=>?_
   match xs,h1,he,h2 with
   | [],h1,he,h2=>exact ⟨[nilPl,nilPl],fun x hx c hc=>by
     rcases List.mem_cons.1 hx with rfl | hx
     · exact hc.elim
     · obtain rfl:=List.mem_singleton.1 hx
       exact hc.elim,he,⟨fun _ h=>h.elim,fun _ h=>h.elim,trivial⟩,h3⟩
def sOf (a b:Fp):Spec Tryz.prog :=
 ⟨204,Tryz.call204,[.one (.a (fpC a++fpC b))],[],.tup [nA 0,.c (.b (.v (.bool (a.B&&b.B))))],ofT a b,sOf_ok a b,by cases a<;>cases b<;>kernel_rfl⟩
def sInt (n m:Int) (hn : -9223372036854775808≤n∧n≤9223372036854775807) (hm : -9223372036854775808≤m∧m≤9223372036854775807):Spec Tryz.prog :=
 Spec.auto Tryz.call284 [.one (.c (.b (.v (.int .i64 n)))),.one (.c (.b (.v (.int .i64 m))))] [] (nV 0) (gT (gint n m))
  [nNew n 1 hn (by decide) (by decide),nNew m 1 hm (by decide) (by decide)] [] 400 Tryz.func284 hmA (by kernel_rfl) (fun β=>by kernel_rfl)
theorem told_ok {z:GQ} (hz:GSz KB z) (β:Env) (w:World) (hh:∀ (k:Nat) (t:Thing),(gM z)[k]?=some t→t.D w (β k)) :
  Calls Tryz.prog 176 (([nV 0]:List SV).map (SV.den β)).toArray w fun e w'=>∃ xs:List Pl,qK2 β w 2 xs∧e=.returned ((SV.tup [.a (lsX (gaC z)),.c (.b (.v (.int .i64 (gaK z))))]).den (extE β 2 xs))∧qZ0 w' [] xs∧Below w.heap.size w w':=by
 by_cases h1:Fit z.re
 · by_cases h2:Fit z.im
   · rw [(zX1 ⟨h1,h2⟩).1,(zX1 ⟨h1,h2⟩).2]
     have e1:(ansK z.re != 0)=false:=by rw [(zZ9 h1).2.2.2]; rfl
     have e2:(ansK z.im != 0)=false:=by rw [(zZ9 h2).2.2.2]; rfl
     unfold gC
     rw [← (zZ9 h1).1,← (zZ9 h1).2.1,← (zZ9 h1).2.2.1,← (zZ9 h2).1,← (zZ9 h2).2.1,← (zZ9 h2).2.2.1]
     exact qQ1 (obs:=gM z) (evs:=[(sFrac hz.1).e,(sFrac hz.2).e,.eqv 21 (.bool (ansK z.re != 0)) (.bool false) (ansK_ne e1),.eqv 24 (.bool (ansK z.im != 0)) (.bool false) (ansK_ne e2)]) (Ns:=[]) (m:=400) Tryz.func176 hmA (fun β=>by kernel_rfl) (by kernel_rfl) β w hh
   · have hn:¬ FitG z:=fun h=>h2 h.2
     rw [(ga_not hn).1,(ga_not hn).2]
     have e1:(ansK z.re != 0)=false:=by rw [(zZ9 h1).2.2.2]; rfl
     have e2:(ansK z.im != 0)=true:=by rw [show ansK z.im=4 from if_neg h2]; rfl
     exact qQ1 (obs:=gM z) (evs:=[(sFrac hz.1).e,(sFrac hz.2).e,.eqv 21 (.bool (ansK z.re != 0)) (.bool false) (ansK_ne e1),.eqv 24 (.bool (ansK z.im != 0)) (.bool true) (ansK_ne e2)]) (Ns:=[]) (m:=400) Tryz.func176 hmA (fun β=>by kernel_rfl) (by kernel_rfl) β w hh
 · have hn:¬ FitG z:=fun h=>h1 h.1
   rw [(ga_not hn).1,(ga_not hn).2]
   have e1:(ansK z.re != 0)=true:=by rw [show ansK z.re=4 from if_neg h1]; rfl
   exact qQ1 (obs:=gM z) (evs:=[(sFrac hz.1).e,(sFrac hz.2).e,.eqv 21 (.bool (ansK z.re != 0)) (.bool true) (ansK_ne e1)]) (Ns:=[]) (m:=400) Tryz.func176 hmA (fun β=>by kernel_rfl) (by kernel_rfl) β w hh
noncomputable def sTold {z:GQ} (hz:GSz KB z):Spec Tryz.prog :=
 ⟨176,Tryz.call176,[nV 0],gM z,.tup [.a (lsX (gaC z)),.c (.b (.v (.int .i64 (gaK z))))],[],told_ok hz,by kernel_rfl⟩
def pI:Pt→Bool
 | .inf=>true
 | .fin _=>false
def pG:Pt→GQ
 | .inf=>g0
 | .fin z=>z
def pL (k:Nat) (p:Pt):List Lf:=[.b (.v (.bool (pI p))),.b (.z k 0),.b (.z (k+1) 0)]
abbrev pV (k:Nat) (p:Pt):SV:=.one (.a (pL k p))
def pM (p:Pt):List Thing:=gM (pG p)
def mA (k:Nat) (m:MQ):SC:=.a [.b (.z k 0),.b (.z (k+1) 0),.b (.z (k+2) 0),.b (.z (k+3) 0),.b (.z (k+4) 0),.b (.z (k+5) 0),.b (.z (k+6) 0),.b (.z (k+7) 0),.b (.v (.bool m.t))]
abbrev mV (k:Nat) (m:MQ):SV:=.one (mA k m)
def mM (m:MQ):List Thing:=gM m.a++gM m.b++gM m.c++gM m.d
def mT (m:MQ):List Thing:=gT m.a++gT m.b++gT m.c++gT m.d
def sBy (p:Pt):Spec Tryz.prog :=
 ⟨297,Tryz.call297,[pV 0 p],pM p,.tup [nA 2,nA 4],gM (byA p)++gM (byB p),fun β w hh=>by
  cases p
  · exact qQ1 (obs:=pM .inf) (evs:=[(sInt 1 0 (by decide) (by decide)).e,(sInt 0 0 (by decide) (by decide)).e]) (Ns:=[(3,3)]) (m:=400) Tryz.func297 hmA (fun β=>by kernel_rfl) (by kernel_rfl) β w hh
  · rename_i z
    exact qQ1 (obs:=pM (.fin z)) (evs:=[(sInt 1 0 (by decide) (by decide)).e]) (Ns:=[(3,3)]) (m:=400) Tryz.func297 hmA (fun β=>by kernel_rfl) (by kernel_rfl) β w hh,by kernel_rfl⟩
def sAcross {p q:Pt} (hp:PSz KE p) (hq:PSz KE q):Spec Tryz.prog :=
 Spec.auto Tryz.call298 [pV 0 p,pV 2 q] (pM p++pM q) (nV 4) (gT (qZ1 p q))
  [(sBy p).e,(sBy q).e,
 (sMul ((zH9 hp (by decide)).mono (by decide)) (zH8 (p:=q) (by decide))).e,(sMul (zH8 (p:=p) (by decide)) ((zH9 hq (by decide)).mono (by decide))).e,
 (sSub (((zH9 hp (by decide)).mul (zH8 (k:=KE) (p:=q) (by decide))).mono (by decide)) (((zH8 (k:=KE) (p:=p) (by decide)).mul (zH9 hq (by decide))).mono (by decide))).e] [(3,7)] 800 Tryz.func298 hmA (by kernel_rfl) (fun β=>by kernel_rfl)
def sDet {m:MQ} (h:MSz KE m):Spec Tryz.prog :=
 Spec.auto Tryz.call175 [mV 0 m] (mM m) (nV 8) (gT (mdet m))
  [(sMul (h.a.mono (by decide)) (h.d.mono (by decide))).e,(sMul (h.b.mono (by decide)) (h.c.mono (by decide))).e,(sSub ((h.a.mul h.d).mono (by decide)) ((h.b.mul h.c).mono (by decide))).e]
  [(1,11)] 400 Tryz.func175 hmA (by kernel_rfl) (fun β=>by kernel_rfl)
def zK4 {m:MQ} (h:MSz KM m) {b:Bool} (hb:qQ6 m.c=b) (h0:qQ6 (bif b then m.d else m.c)=false):Spec Tryz.prog :=
 ⟨286,Tryz.call286,[mV 0 m],mM m,mV 8 (qV8 m b),mT (qV8 m b),fun β w hh=>by
  cases b
  · exact qQ1 (obs:=mM m) (evs:=[(qH1 hb).e,(sDiv h.a h.c h0).e,(sDiv h.b h.c h0).e,(sDiv h.c h.c h0).e,(sDiv h.d h.c h0).e]) (Ns:=[(4,19)]) (m:=400) Tryz.func286 hmA (fun β=>by kernel_rfl) (by kernel_rfl) β w hh
  · exact qQ1 (obs:=mM m) (evs:=[(qH1 hb).e,(sDiv h.a h.d h0).e,(sDiv h.b h.d h0).e,(sDiv h.c h.d h0).e,(sDiv h.d h.d h0).e]) (Ns:=[(4,19)]) (m:=400) Tryz.func286 hmA (fun β=>by kernel_rfl) (by kernel_rfl) β w hh,by kernel_rfl⟩
def qV1 (t:Bool):MQ:=⟨gint 1 0,g0,g0,gint 1 0,t⟩
theorem newHold4 {w:World} {t1 t2 t3 t4:Thing}:∀ {xs:List Pl},qZ0 w [t1,t2,t3,t4] xs→∃ a b c d,xs=[a,b,c,d]∧t1.D w a∧t2.D w b∧t3.D w c∧t4.D w d
 | [],h=>h.elim
 | [_],h=>h.2.elim
 | [_,_],h=>h.2.2.elim
 | [_,_,_],h=>h.2.2.2.elim
 | [a,b,c,d],h=>⟨a,b,c,d,rfl,h.1,h.2.1,h.2.2.1,h.2.2.2.1⟩
 | _::_::_::_::_::_,h=>h.2.2.2.2.elim
theorem still_ok (β:Env) (w:World) (hh:∀ (k:Nat) (t:Thing),([]:List Thing)[k]?=some t→t.D w (β k)) :
  Calls Tryz.prog 146 (([]:List SV).map (SV.den β)).toArray w fun e w'=>∃ xs:List Pl,qK2 β w 0 xs∧e=.returned ((SV.one (.a [.b (.z 0 0),.b (.z 1 0),.b (.v (.pointer none)),.b (.v (.pointer none)),.b (.v (.pointer none)),.b (.v (.pointer none)),.b (.z 2 0),.b (.z 3 0),.b (.v (.bool false))])).den (extE β 0 xs))∧qZ0 w' [ratM (gint 1 0).re,ratM (gint 1 0).im,ratM (gint 1 0).re,ratM (gint 1 0).im] xs∧Below w.heap.size w w' :=
 qQ1 (evs:=[(sInt 1 0 (by decide) (by decide)).e,(sInt 1 0 (by decide) (by decide)).e]) (Ns:=[]) (m:=400) Tryz.func146 hmA (fun β=>by kernel_rfl) (by kernel_rfl) β w hh
theorem still_ok2 (β:Env) (w:World) (hh:∀ (k:Nat) (t:Thing),([]:List Thing)[k]?=some t→t.D w (β k)) :
  Calls Tryz.prog 146 (([]:List SV).map (SV.den β)).toArray w fun e w'=>∃ xs:List Pl,qK2 β w 0 xs∧e=.returned ((mV 0 (qV1 false)).den (extE β 0 xs))∧qZ0 w' [ratM (gint 1 0).re,ratM (gint 1 0).im,ratM 0,ratM 0,ratM 0,ratM 0,ratM (gint 1 0).re,ratM (gint 1 0).im] xs∧Below w.heap.size w w':=by
 refine (still_ok β w hh).mono fun e w' ⟨xs,h1,he,h2,h3⟩=>?_
 obtain ⟨a,b,c,d,rfl,k1,k2,k3,k4⟩:=newHold4 h2
 have hn:(ratM 0).D w' nilPl:=nil_or (decide_eq_true rfl) w'
 refine ⟨[a,b,nilPl,nilPl,nilPl,nilPl,c,d],fun x hx k hk=>?_,by rw [he]; kernel_rfl,⟨k1,k2,hn,hn,hn,hn,k3,k4,trivial⟩,h3⟩
 simp only [List.mem_cons,List.not_mem_nil,or_false] at hx
 rcases hx with rfl | rfl | rfl | rfl | rfl | rfl | rfl | rfl
 · exact h1 _ (by simp) k hk
 · exact h1 _ (by simp) k hk
 · exact hk.elim
 · exact hk.elim
 · exact hk.elim
 · exact hk.elim
 · exact h1 _ (by simp) k hk
 · exact h1 _ (by simp) k hk
def sStill:Spec Tryz.prog :=
 ⟨146,Tryz.call146,[],[],mV 0 (qV1 false),[ratM (gint 1 0).re,ratM (gint 1 0).im,ratM 0,ratM 0,ratM 0,ratM 0,ratM (gint 1 0).re,ratM (gint 1 0).im],still_ok2,by kernel_rfl⟩
def sUndo {m:MQ} (h:MSz KM m) {b:Bool} (hb:qQ6 (zK5 (qK1 m) m.t).c=b) (h0:qQ6 (bif b then (zK5 (qK1 m) m.t).d else (zK5 (qK1 m) m.t).c)=false):Spec Tryz.prog :=
 ⟨145,Tryz.call145,[mV 0 m],mM m,mV 8 (qV8 (zK5 (qK1 m) m.t) b),mT (qV8 (zK5 (qK1 m) m.t) b),fun β w hh=>by
  obtain ⟨a,b',c,d,t⟩:=m
  cases t
  · exact qQ1 (obs:=mM ⟨a,b',c,d,false⟩) (evs:=[(sNeg b').e,(sNeg c).e,(zK4 (h.undo0.conj false) hb h0).e]) (Ns:=[(1,14),(3,13)]) (m:=400) Tryz.func145 hmA (fun β=>by kernel_rfl) (by kernel_rfl) β w hh
  · exact qQ1 (obs:=mM ⟨a,b',c,d,true⟩) (evs:=[(sNeg b').e,(sNeg c).e,(sConj d).e,(sConj (gneg b')).e,(sConj (gneg c)).e,(sConj a).e,(zK4 (h.undo0.conj true) hb h0).e]) (Ns:=[(1,14),(3,13)]) (m:=400) Tryz.func145 hmA (fun β=>by kernel_rfl) (by kernel_rfl) β w hh,by kernel_rfl⟩
def mulE {z w:GQ} (hz:GSz KE z) (hw:GSz KE w):Ev Tryz.prog:=(sMul (hz.mono (by decide)) (hw.mono (by decide))).e
def mulMulAdd {z w u v:GQ} (hz:GSz KE z) (hw:GSz KE w) (hu:GSz KE u) (hv:GSz KE v):List (Ev Tryz.prog) :=
 [mulE hz hw,mulE hu hv,(sAdd ((hz.mul hw).mono (by decide)) ((hu.mul hv).mono (by decide))).e]
def behE {m n:MQ} (h:MSz KE m) (k:MSz KE n):List (Ev Tryz.prog) :=
 mulMulAdd h.a k.a h.b k.c++mulMulAdd h.a k.b h.b k.d++mulMulAdd h.c k.a h.d k.c++mulMulAdd h.c k.b h.d k.d
def conjE (n:MQ):List (Ev Tryz.prog):=[(sConj n.a).e,(sConj n.b).e,(sConj n.c).e,(sConj n.d).e]
def sBehind {m n:MQ} (h:MSz KE m) (k:MSz KE n) {b:Bool} (hb:qQ6 (mbeh m n).c=b) (h0:qQ6 (bif b then (mbeh m n).d else (mbeh m n).c)=false):Spec Tryz.prog :=
 ⟨147,Tryz.call147,[mV 0 m,mV 8 n],mM m++mM n,mV 16 (qV8 (mbeh m n) b),mT (qV8 (mbeh m n) b),fun β w hh=>by
  obtain ⟨a,b',c,d,t⟩:=m
  obtain ⟨a2,b2,c2,d2,t2⟩:=n
  cases t
  · cases t2<;>exact qQ1 (obs:=mM ⟨a,b',c,d,_⟩++mM ⟨a2,b2,c2,d2,_⟩) (evs:=behE h k++[(zK4 ((h.beh k).mono (by decide)) hb h0).e]) (Ns:=[(2,13),(3,51)]) (m:=800) Tryz.func147 hmA (fun β=>by kernel_rfl) (by kernel_rfl) β w hh
  · cases t2<;>exact qQ1 (obs:=mM ⟨a,b',c,d,_⟩++mM ⟨a2,b2,c2,d2,_⟩) (evs:=conjE ⟨a2,b2,c2,d2,true⟩++behE h (k.conj true)++[(zK4 ((h.beh k).mono (by decide)) hb h0).e]) (Ns:=[(2,13),(3,51)]) (m:=800) Tryz.func147 hmA (fun β=>by kernel_rfl) (by kernel_rfl) β w hh,by kernel_rfl⟩
def chE {p q r:Pt} (hp:PSz KC p) (hq:PSz KC q) (hr:PSz KC r):List (Ev Tryz.prog):=[(sBy p).e,(sBy r).e,(sAcross (hq.mono (by decide)) (hr.mono (by decide))).e,(sAcross (hq.mono (by decide)) (hp.mono (by decide))).e,
 mulE (zH8 (p:=p) (by decide)) ((qK8 hq hr (by decide)).mono (by decide)),mulE ((zH9 hp (by decide)).mono (by decide)) ((qK8 hq hr (by decide)).mono (by decide)),(sNeg (gmul (byA p) (qZ1 q r))).e,
 mulE (zH8 (p:=r) (by decide)) ((qK8 hq hp (by decide)).mono (by decide)),mulE ((zH9 hr (by decide)).mono (by decide)) ((qK8 hq hp (by decide)).mono (by decide)),(sNeg (gmul (byA r) (qZ1 q p))).e]
def sChart {p q r:Pt} (hp:PSz KC p) (hq:PSz KC q) (hr:PSz KC r) {b:Bool} (hb:qQ6 (qZ3 p q r).c=b) (h0:qQ6 (bif b then (qZ3 p q r).d else (qZ3 p q r).c)=false):Spec Tryz.prog :=
 Spec.auto Tryz.call174 [.one (.a (pL 0 p++pL 2 q++pL 4 r))] (pM p++pM q++pM r) (mV 6 (qV8 (qZ3 p q r) b)) (mT (qV8 (qZ3 p q r) b))
  (chE hp hq hr++[(zK4 ((chart0_sz hp hq hr).mono (by decide)) hb h0).e]) [(3,12),(4,16)] 800 Tryz.func174 hmA (by kernel_rfl) (fun β=>by kernel_rfl)
noncomputable def sToldP (p:Pt) (h:PSz KB p):Spec Tryz.prog :=
 ⟨161,Tryz.call161,[pV 0 p],pM p,.tup [.a (lsX (paC p)),.c (.b (.v (.int .i64 (paK p))))],[],fun β w hh=>by
  cases p
  · exact qQ1 (obs:=pM .inf) (evs:=[]) (Ns:=[]) (m:=400) Tryz.func161 hmA (fun β=>by kernel_rfl) (by kernel_rfl) β w hh
  · rename_i z
    exact qQ1 (obs:=pM (.fin z)) (evs:=[(sTold (z:=z) h).e]) (Ns:=[]) (m:=400) Tryz.func161 hmA (fun β=>by kernel_rfl) (by kernel_rfl) β w hh,by cases p<;>kernel_rfl⟩
def sendE (m:MQ) (h:MSz KE m):(p:Pt)→PSz KE p→List (Ev Tryz.prog)
 | .inf,_=>[]
 | .fin z,hp=>(bif m.t then [(sConj z).e] else [])++[mulE h.a (mcj_sz (t:=m.t) hp),(sAdd ((h.a.mul (mcj_sz (t:=m.t) hp)).mono (by decide)) (h.b.mono (by decide))).e,
   mulE h.c (mcj_sz (t:=m.t) hp),(sAdd ((h.c.mul (mcj_sz (t:=m.t) hp)).mono (by decide)) (h.d.mono (by decide))).e]
theorem nilpair {P:Program} {f:FuncId} {args:Array Value} {w:World} {β:Env} {m:Nat} {r r':Env→Value}
  (h:Calls P f args w fun e w'=>∃ xs:List Pl,qK2 β w m xs∧e=.returned (r (extE β m xs))∧qZ0 w' [] xs∧Below w.heap.size w w') (hr:r' (extE β m [nilPl,nilPl])=r (extE β m [])) :
  Calls P f args w fun e w'=>∃ xs:List Pl,qK2 β w m xs∧e=.returned (r' (extE β m xs))∧qZ0 w' (gM g0) xs∧Below w.heap.size w w' :=
 h.mono fun e w' ⟨xs,h1,he,h2,h3⟩=>by
  match xs,h1,he,h2 with
  | [],h1,he,h2 =>
   have hn:OR0 0 w' nilPl:=nil_or (by decide) w'
   refine ⟨[nilPl,nilPl],fun x hx k hk=>?_,by rw [he,hr],⟨hn,hn,trivial⟩,h3⟩
   simp only [List.mem_cons,List.not_mem_nil,or_false] at hx
   rcases hx with rfl | rfl<;>exact hk.elim
def sSend {m:MQ} {p:Pt} (h:MSz KE m) (hp:PSz KE p) {b:Bool} (hb:qQ6 (msD m p)=b):Spec Tryz.prog :=
 ⟨162,Tryz.call162,[mV 0 m,pV 8 p],mM m++pM p,pV 10 (msend m p b),pM (msend m p b),fun β w hh=>by
  obtain ⟨a,b',c,d,t⟩:=m
  cases b
  · rcases p with _ | z
    · cases t<;>exact qQ1 (obs:=mM ⟨a,b',c,d,_⟩++pM .inf) (evs:=sendE _ h _ hp++[(qH1 hb).e,(sDiv ((msN_sz h hp).mono (by decide)) ((msD_sz h hp).mono (by decide)) hb).e]) (Ns:=[(1,7+6000+1000000*14),(6,14)]) (m:=800) Tryz.func162 hmA (fun β=>by kernel_rfl) (by kernel_rfl) β w hh
    · cases t<;>exact qQ1 (obs:=mM ⟨a,b',c,d,_⟩++pM (.fin z)) (evs:=sendE _ h _ hp++[(qH1 hb).e,(sDiv ((msN_sz h hp).mono (by decide)) ((msD_sz h hp).mono (by decide)) hb).e]) (Ns:=[(1,7+6000+1000000*14),(6,14)]) (m:=800) Tryz.func162 hmA (fun β=>by kernel_rfl) (by kernel_rfl) β w hh
  · rcases p with _ | z
    · cases t<;>exact nilpair (r:=(SV.one (.a [.b (.v (.bool true)),.b (.v (.pointer none)),.b (.v (.pointer none))])).den) (r':=(pV 10 .inf).den) (qQ1 (obs:=mM ⟨a,b',c,d,_⟩++pM .inf) (args:=[mV 0 ⟨a,b',c,d,_⟩,pV 8 .inf]) (res:=.one (.a [.b (.v (.bool true)),.b (.v (.pointer none)),.b (.v (.pointer none))])) (news:=[]) (evs:=sendE _ h _ hp++[(qH1 hb).e]) (Ns:=[(1,7+6000+1000000*14),(6,14)]) (m:=800) Tryz.func162 hmA (fun β=>by kernel_rfl) (by kernel_rfl) β w hh) (by kernel_rfl)
    · cases t<;>exact nilpair (r:=(SV.one (.a [.b (.v (.bool true)),.b (.v (.pointer none)),.b (.v (.pointer none))])).den) (r':=(pV 10 .inf).den) (qQ1 (obs:=mM ⟨a,b',c,d,_⟩++pM (.fin z)) (args:=[mV 0 ⟨a,b',c,d,_⟩,pV 8 (.fin z)]) (res:=.one (.a [.b (.v (.bool true)),.b (.v (.pointer none)),.b (.v (.pointer none))])) (news:=[]) (evs:=sendE _ h _ hp++[(qH1 hb).e]) (Ns:=[(1,7+6000+1000000*14),(6,14)]) (m:=800) Tryz.func162 hmA (fun β=>by kernel_rfl) (by kernel_rfl) β w hh) (by kernel_rfl),by cases p<;>cases b<;>kernel_rfl⟩
noncomputable def tE {z:GQ} (hz:GSz KB z) (r:Bool) (h:(gaK z != 0)=r):List (Ev Tryz.prog):=[(sTold hz).e,.eqv 43 (.bool (gaK z != 0)) (.bool r) (gaK_ne h)]
noncomputable def tN {z:GQ} (hz:GSz KB z) (h:¬ FitG z):List (Ev Tryz.prog):=tE hz true (gaK_not h)++[.eqv 45 (.int .i64 (gaK z)) (.int .i64 4) (by rw [(ga_not h).2])]
noncomputable def sToldM {m:MQ} (h:MSz KM m) {b:Bool} (hb:qQ6 m.c=b) (h0:qQ6 (bif b then m.d else m.c)=false):Spec Tryz.prog :=
 ⟨148,Tryz.call148,[mV 0 m],mM m,.tup [.a (lsX (maC (qV8 m b))),.c (.b (.v (.int .i64 (maK (qV8 m b)))))],[],fun β w hh=>by
  have hn:=(h.normB h0).mono (show dsz KM≤KB by decide)
  by_cases h1:FitG (qV8 m b).a
  · by_cases h2:FitG (qV8 m b).b
    · by_cases h3:FitG (qV8 m b).c
      · by_cases h4:FitG (qV8 m b).d
        · rw [(maC_yes ⟨h1,h2,h3,h4⟩).1,(maC_yes ⟨h1,h2,h3,h4⟩).2]
          exact qQ1 (obs:=mM m) (evs:=[(zK4 h hb h0).e]++tE hn.a false (zK7 h1)++tE hn.b false (zK7 h2)++tE hn.c false (zK7 h3)++tE hn.d false (zK7 h4)) (Ns:=[]) (m:=800) Tryz.func148 hmA (fun β=>by kernel_rfl) (by kernel_rfl) β w hh
        · have hN:¬ FitM (qV8 m b):=fun e=>h4 e.2.2.2
          rw [(zH7 hN).1,(zH7 hN).2]
          exact qQ1 (obs:=mM m) (evs:=[(zK4 h hb h0).e]++tE hn.a false (zK7 h1)++tE hn.b false (zK7 h2)++tE hn.c false (zK7 h3)++tN hn.d h4) (Ns:=[]) (m:=800) Tryz.func148 hmA (fun β=>by kernel_rfl) (by kernel_rfl) β w hh
      · have hN:¬ FitM (qV8 m b):=fun e=>h3 e.2.2.1
        rw [(zH7 hN).1,(zH7 hN).2]
        exact qQ1 (obs:=mM m) (evs:=[(zK4 h hb h0).e]++tE hn.a false (zK7 h1)++tE hn.b false (zK7 h2)++tN hn.c h3) (Ns:=[]) (m:=800) Tryz.func148 hmA (fun β=>by kernel_rfl) (by kernel_rfl) β w hh
    · have hN:¬ FitM (qV8 m b):=fun e=>h2 e.2.1
      rw [(zH7 hN).1,(zH7 hN).2]
      exact qQ1 (obs:=mM m) (evs:=[(zK4 h hb h0).e]++tE hn.a false (zK7 h1)++tN hn.b h2) (Ns:=[]) (m:=800) Tryz.func148 hmA (fun β=>by kernel_rfl) (by kernel_rfl) β w hh
  · have hN:¬ FitM (qV8 m b):=fun e=>h1 e.1
    rw [(zH7 hN).1,(zH7 hN).2]
    exact qQ1 (obs:=mM m) (evs:=[(zK4 h hb h0).e]++tN hn.a h1) (Ns:=[]) (m:=800) Tryz.func148 hmA (fun β=>by kernel_rfl) (by kernel_rfl) β w hh,by kernel_rfl⟩
def rL (x:R4):List Lf:=[.b (.v (.bool x.b)),.b (.v (.string x.s)),.b (.v (.bool x.c)),.b (.v (.string x.t))]
structure Fr where
 r:R4
 a:Fp
 e:fpC a=rL r
def sOfW (a b:Fr) {r:Bool} (hr:(a.a.B&&b.a.B)=r):Spec Tryz.prog :=
 ⟨204,Tryz.call204,[.one (.a (rL a.r++rL b.r))],[],.tup [nA 0,.c (.b (.v (.bool r)))],[anyT,anyT],fun β w hh=>by
  rw [← a.e,← b.e]
  refine (sOf_ok a.a b.a β w hh).mono fun e w' ⟨xs,h1,he,h2,h3⟩=>⟨xs,h1,by rw [he,hr]; rfl,?_,h3⟩
  obtain ⟨_,a,_⟩:=a
  obtain ⟨_,b,_⟩:=b
  cases a<;>cases b
  · match xs,h2 with
    | [p,q],h2=>exact ⟨an_of (zQ9 _) h2.1,an_of (zQ9 _) h2.2.1,trivial⟩
  · exact h2
  · exact h2
  · exact h2,by kernel_rfl⟩
structure Mp where
 a:Fr
 a':Fr
 b:Fr
 b':Fr
 c:Fr
 c':Fr
 d:Fr
 d':Fr
 t:Bool
def Mp.C (m:Mp):List Lf:=rL m.a.r++rL m.a'.r++rL m.b.r++rL m.b'.r++rL m.c.r++rL m.c'.r++rL m.d.r++rL m.d'.r++[.b (.v (.bool m.t))]
def any8:List Thing:=[anyT,anyT,anyT,anyT,anyT,anyT,anyT,anyT]
def eqEv (t:TypeId) (xs ys:Array Value) (r:Bool) (hg:Tryz.prog.eqGuardType Tryz.prog.depth t=false) (h:∀ w,(Op.equalIn 10000 t (.agg xs) (.agg ys)).run Tryz.prog w=.ok r w):Ev Tryz.prog :=
 .dyn (fun o _ _=>match o.op with
  | .binOp .eql t' _ _ _=>Nat.beq t' t
  | .binOp .neq t' _ _ _=>Nat.beq t' t
  | _=>false) fun o _ _=>match o.op with
  | .binOp .eql _ a b u=>.gen (o.dst.getD 0) (.binOp .eql t a b u) [.agg xs,.agg ys] (.bool r) (fun ρ o w ho hx=>by
    simp only [Op.operands,List.map_cons,List.map_nil,List.cons.injEq] at hx
    exact exec_eql hg (h w) a b ρ o ho hx.1 hx.2.1)
  | .binOp .neq _ a b u=>.gen (o.dst.getD 0) (.binOp .neq t a b u) [.agg xs,.agg ys] (.bool (!r)) (fun ρ o w ho hx=>by
    simp only [Op.operands,List.map_cons,List.map_nil,List.cons.injEq] at hx
    exact exec_neq hg (h w) a b ρ o ho hx.1 hx.2.1)
  | _=>.eqv 0 undef undef rfl
def eqEvP (i i':Bool) (x y x' y':R4) (r:Bool) (h:((i==i')&&((x.eq x'&&(y.eq y'&&true))&&true))=r):Ev Tryz.prog :=
 eqEv 61 #[.bool i,.bool x.b,.string x.s,.bool x.c,.string x.t,.bool y.b,.string y.s,.bool y.c,.string y.t] #[.bool i',.bool x'.b,.string x'.s,.bool x'.c,.string x'.t,.bool y'.b,.string y'.s,.bool y'.c,.string y'.t] r (by kernel_rfl) (fun w=>by rw [← h]; exact eqP 9995 i i' x y x' y')
def eqEvW (b b':Bool) (s s':ByteArray) (r:Bool) (h:weq b b' s s'=r):Ev Tryz.prog :=
 eqEv 23 #[.bool b,.string s] #[.bool b',.string s'] r (by kernel_rfl) (fun w=>by rw [← h]; exact eqW 9998 ..)
def eqEvG (x y x' y':R4) (r:Bool) (h:(x.eq x'&&(y.eq y'&&true))=r):Ev Tryz.prog :=
 eqEv 46 #[.bool x.b,.string x.s,.bool x.c,.string x.t,.bool y.b,.string y.s,.bool y.c,.string y.t] #[.bool x'.b,.string x'.s,.bool x'.c,.string x'.t,.bool y'.b,.string y'.s,.bool y'.c,.string y'.t] r (by kernel_rfl) (fun w=>by rw [← h]; exact eqG 9996 ..)
def spI:Pp→Bool
 | .fin ..=>false
 | _=>true
def spT:Pp→List Thing
 | .fin a b=>ofT a b
 | _=>gM g0
def sSpot (p:Pp):Spec Tryz.prog :=
 ⟨158,Tryz.call158,[.one (.a (lsX p.C))],[],.tup [.a [.b (.v (.bool (spI p))),.b (.z 0 0),.b (.z 1 0)],.c (.b (.v (.bool p.B)))],spT p,fun β w hh=>by
  rcases p with _ | ⟨a,b⟩ | ⟨x,y,h⟩
  · exact nilpair (r:=(SV.tup [.a [.b (.v (.bool true)),.b (.v (.pointer none)),.b (.v (.pointer none))],.c (.b (.v (.bool true)))]).den) (r':=(SV.tup [.a [.b (.v (.bool true)),.b (.z 0 0),.b (.z 1 0)],.c (.b (.v (.bool true)))]).den) (qQ1 (args:=[.one (.a (lsX Pp.inf.C))]) (obs:=[]) (res:=.tup [.a [.b (.v (.bool true)),.b (.v (.pointer none)),.b (.v (.pointer none))],.c (.b (.v (.bool true)))]) (news:=[]) (evs:=[]) (Ns:=[(2,2004005)]) (m:=400) Tryz.func158 hmA (fun β=>by kernel_rfl) (by kernel_rfl) β w hh) (by kernel_rfl)
  · cases a with
    | ok x hx=>cases b with
     | ok y hy=>exact qQ1 (obs:=[]) (evs:=[(sOf (.ok x hx) (.ok y hy)).e]) (Ns:=[(2,2004005)]) (m:=400) Tryz.func158 hmA (fun β=>by kernel_rfl) (by kernel_rfl) β w hh
     | no b2 c2 s2 t2 h2 u2 v2=>exact qQ1 (obs:=[]) (evs:=[(sOf (.ok x hx) (.no b2 c2 s2 t2 h2 u2 v2)).e]) (Ns:=[(2,2004005)]) (m:=400) Tryz.func158 hmA (fun β=>by kernel_rfl) (by kernel_rfl) β w hh
    | no b1 c1 s1 t1 h1 u1 v1=>cases b with
     | ok y hy=>exact qQ1 (obs:=[]) (evs:=[(sOf (.no b1 c1 s1 t1 h1 u1 v1) (.ok y hy)).e]) (Ns:=[(2,2004005)]) (m:=400) Tryz.func158 hmA (fun β=>by kernel_rfl) (by kernel_rfl) β w hh
     | no b2 c2 s2 t2 h2 u2 v2=>exact qQ1 (obs:=[]) (evs:=[(sOf (.no b1 c1 s1 t1 h1 u1 v1) (.no b2 c2 s2 t2 h2 u2 v2)).e]) (Ns:=[(2,2004005)]) (m:=400) Tryz.func158 hmA (fun β=>by kernel_rfl) (by kernel_rfl) β w hh
  · exact nilpair (r:=(SV.tup [.a [.b (.v (.bool true)),.b (.v (.pointer none)),.b (.v (.pointer none))],.c (.b (.v (.bool false)))]).den) (r':=(SV.tup [.a [.b (.v (.bool true)),.b (.z 0 0),.b (.z 1 0)],.c (.b (.v (.bool false)))]).den) (qQ1 (args:=[.one (.a (lsX (Pp.odd x y h).C))]) (obs:=[]) (res:=.tup [.a [.b (.v (.bool true)),.b (.v (.pointer none)),.b (.v (.pointer none))],.c (.b (.v (.bool false)))]) (news:=[]) (evs:=[eqEvP true true x y r40 r40 false (odd_ne h)]) (Ns:=[(2,2004005)]) (m:=400) Tryz.func158 hmA (fun β=>by kernel_rfl) (by kernel_rfl) β w hh) (by kernel_rfl),by
  rcases p with _ | ⟨_ | _,_ | _⟩ | _<;>kernel_rfl⟩
theorem fitG_sz {z:GQ} (h:FitG z):GSz 1024 z:=⟨h.1.sz,h.2.sz⟩
theorem qX3 {m:MQ} (h:FitM m):MSz 1024 m:=⟨fitG_sz h.1,fitG_sz h.2.1,fitG_sz h.2.2.1,fitG_sz h.2.2.2⟩
def mCl (m:MQ):List Lf:=lsX (gC m.a)++lsX (gC m.b)++lsX (gC m.c)++lsX (gC m.d)++[.b (.v (.bool m.t))]
def ofE {z:GQ} (h:FitG z):Ev Tryz.prog:=(sOf (.ok z.re h.1) (.ok z.im h.2)).e
def of4E {m:MQ} (h:FitM m):List (Ev Tryz.prog):=[ofE h.1,ofE h.2.1,ofE h.2.2.1,ofE h.2.2.2]
def mB (k:Nat) (t:Bool):SC:=.a [.b (.z k 0),.b (.z (k+1) 0),.b (.z (k+2) 0),.b (.z (k+3) 0),.b (.z (k+4) 0),.b (.z (k+5) 0),.b (.z (k+6) 0),.b (.z (k+7) 0),.b (.v (.bool t))]
def mx0:SC:=.a [.b (.v (.pointer none)),.b (.v (.pointer none)),.b (.v (.pointer none)),.b (.v (.pointer none)),.b (.v (.pointer none)),.b (.v (.pointer none)),.b (.v (.pointer none)),.b (.v (.pointer none)),.b (.v (.bool false))]
theorem nil8 {P:Program} {f:FuncId} {args:Array Value} {w:World} {β:Env}
  (h:Calls P f args w fun e w'=>∃ xs:List Pl,qK2 β w 0 xs∧e=.returned ((SV.tup [mx0,.c (.b (.v (.bool false)))]).den (extE β 0 xs))∧qZ0 w' [] xs∧Below w.heap.size w w') :
  Calls P f args w fun e w'=>∃ xs:List Pl,qK2 β w 0 xs∧e=.returned ((SV.tup [mB 0 false,.c (.b (.v (.bool false)))]).den (extE β 0 xs))∧qZ0 w' any8 xs∧Below w.heap.size w w' :=
 h.mono fun e w' ⟨xs,h1,he,h2,h3⟩=>by
  have hn:AN w' nilPl:=fun _ h=>h.elim
  exact ⟨[nilPl,nilPl,nilPl,nilPl,nilPl,nilPl,nilPl,nilPl],fun x hx c hc=>by
   simp only [List.mem_cons,List.not_mem_nil,or_false,or_self] at hx
   subst hx
   exact hc.elim,by rw [he]; kernel_rfl,⟨hn,hn,hn,hn,hn,hn,hn,hn,trivial⟩,h3⟩
theorem openNum_ok (m:Mp) {r1 r2 r3 r4:Bool} (ha:(m.a.a.B&&m.a'.a.B)=r1) (hb:(m.b.a.B&&m.b'.a.B)=r2) (hc:(m.c.a.B&&m.c'.a.B)=r3) (hd:(m.d.a.B&&m.d'.a.B)=r4) (hf:(r1&&r2&&r3&&r4)=false) (β:Env) (w:World) (hh:∀ (k:Nat) (t:Thing),([]:List Thing)[k]?=some t→t.D w (β k)) :
  Calls Tryz.prog 144 (([.one (.a m.C)]:List SV).map (SV.den β)).toArray w fun e w'=>∃ xs:List Pl,qK2 β w 0 xs∧e=.returned ((SV.tup [mx0,.c (.b (.v (.bool false)))]).den (extE β 0 xs))∧qZ0 w' [] xs∧Below w.heap.size w w':=by
 cases r1 with
 | false=>exact qQ1 (evs:=[(sOfW m.a m.a' ha).e,(sOfW m.b m.b' hb).e,(sOfW m.c m.c' hc).e,(sOfW m.d m.d' hd).e]) (Ns:=[(12,2016017)]) (m:=1200) Tryz.func144 hmA (fun β=>by kernel_rfl) (by kernel_rfl) β w hh
 | true=>cases r2 with
  | false=>exact qQ1 (evs:=[(sOfW m.a m.a' ha).e,(sOfW m.b m.b' hb).e,(sOfW m.c m.c' hc).e,(sOfW m.d m.d' hd).e]) (Ns:=[(12,2016017)]) (m:=1200) Tryz.func144 hmA (fun β=>by kernel_rfl) (by kernel_rfl) β w hh
  | true=>cases r3 with
   | false=>exact qQ1 (evs:=[(sOfW m.a m.a' ha).e,(sOfW m.b m.b' hb).e,(sOfW m.c m.c' hc).e,(sOfW m.d m.d' hd).e]) (Ns:=[(12,2016017)]) (m:=1200) Tryz.func144 hmA (fun β=>by kernel_rfl) (by kernel_rfl) β w hh
   | true=>cases r4 with
    | false=>exact qQ1 (evs:=[(sOfW m.a m.a' ha).e,(sOfW m.b m.b' hb).e,(sOfW m.c m.c' hc).e,(sOfW m.d m.d' hd).e]) (Ns:=[(12,2016017)]) (m:=1200) Tryz.func144 hmA (fun β=>by kernel_rfl) (by kernel_rfl) β w hh
    | true=>cases hf
def sOpenNum (m:Mp) {r1 r2 r3 r4:Bool} (ha:(m.a.a.B&&m.a'.a.B)=r1) (hb:(m.b.a.B&&m.b'.a.B)=r2) (hc:(m.c.a.B&&m.c'.a.B)=r3) (hd:(m.d.a.B&&m.d'.a.B)=r4) (hf:(r1&&r2&&r3&&r4)=false):Spec Tryz.prog :=
 ⟨144,Tryz.call144,[.one (.a m.C)],[],.tup [mB 0 false,.c (.b (.v (.bool false)))],any8,fun β w hh=>nil8 (openNum_ok m ha hb hc hd hf β w hh),by
  kernel_rfl⟩
def sOpenDet {m:MQ} (h:FitM m) (hd:qQ6 (mdet m)=true):Spec Tryz.prog :=
 ⟨144,Tryz.call144,[.one (.a (mCl m))],[],.tup [mB 0 false,.c (.b (.v (.bool false)))],any8,fun β w hh=>nil8 (qQ1 (obs:=[]) (args:=[.one (.a (mCl m))]) (res:=.tup [mx0,.c (.b (.v (.bool false)))]) (news:=[]) (evs:=of4E h++[(sDet ((qX3 h).mono (by decide))).e,(qH1 hd).e]) (Ns:=[(12,2016017)]) (m:=1200) Tryz.func144 hmA (fun β=>by kernel_rfl) (by kernel_rfl) β w hh),by kernel_rfl⟩
def mayR (r1 r2 r3:Bool):Bool:=bif r1 then true else bif r2 then r3 else false
def sOpenM {m:MQ} (h:FitM m) {r1 r2 r3:Bool} (hd:qQ6 (mdet m)=false) (h1:qQ6 (gsub m.c (gint 1 0))=r1) (h2:qQ6 m.c=r2) (h3:qQ6 (gsub m.d (gint 1 0))=r3):Spec Tryz.prog :=
 ⟨144,Tryz.call144,[.one (.a (mCl m))],[],.tup [mA 0 m,.c (.b (.v (.bool (mayR r1 r2 r3))))],mT m,fun β w hh=>by
  have k1:GSz KE (gint 1 0):=(GSz.int (by decide) (by decide)).mono (by decide)
  cases r1
  · cases r2
    · exact qQ1 (obs:=[]) (evs:=of4E h++[(sDet ((qX3 h).mono (by decide))).e,(qH1 hd).e,(sInt 1 0 (by decide) (by decide)).e,(zW9 ((qX3 h).c.mono (by decide)) k1 h1).e,(qH1 h2).e]) (Ns:=[(12,2016017)]) (m:=1200) Tryz.func144 hmA (fun β=>by kernel_rfl) (by kernel_rfl) β w hh
    · exact qQ1 (obs:=[]) (evs:=of4E h++[(sDet ((qX3 h).mono (by decide))).e,(qH1 hd).e,(sInt 1 0 (by decide) (by decide)).e,(zW9 ((qX3 h).c.mono (by decide)) k1 h1).e,(qH1 h2).e,(zW9 ((qX3 h).d.mono (by decide)) k1 h3).e]) (Ns:=[(12,2016017)]) (m:=1200) Tryz.func144 hmA (fun β=>by kernel_rfl) (by kernel_rfl) β w hh
  · exact qQ1 (obs:=[]) (evs:=of4E h++[(sDet ((qX3 h).mono (by decide))).e,(qH1 hd).e,(sInt 1 0 (by decide) (by decide)).e,(zW9 ((qX3 h).c.mono (by decide)) k1 h1).e]) (Ns:=[(12,2016017)]) (m:=1200) Tryz.func144 hmA (fun β=>by kernel_rfl) (by kernel_rfl) β w hh,by kernel_rfl⟩
end Go.Proofs.YtbepimnlleilfaaGreat.Y
end
section
namespace Go.Proofs.YtbepimnlleilfaaGreat
open Go.Proofs.YtbepimnlleilfaaGreat.Y
open Go Go.RowKit
set_option maxRecDepth 100000
def Fp.mayE:Fp→Ev Tryz.prog
 | .ok x h=>eMayF x h
 | .no b c s t h hs ht=>eMay b c s t hs ht false ⟨fun e=>Bool.noConfusion e,fun e=>absurd e h⟩
def gMayE (a b:Fp):List (Ev Tryz.prog):=match a with
 | .ok ..=>[a.mayE,b.mayE]
 | .no ..=>[a.mayE]
def sGMay (a b:Fp):Y.Spec Tryz.prog :=
 Y.Spec.auto Tryz.call295 [.one (.a (a.C++b.C))] [] (.one (.c (.b (.v (.bool (a.B&&b.B)))))) []
  (gMayE a b) [] 400 Tryz.func295 hmA (by cases a<;>cases b<;>kernel_rfl) (fun β=>by cases a<;>cases b<;>kernel_rfl)
def sInfinity:Y.Spec Tryz.prog :=
 Y.Spec.auto Tryz.call217 [] [] (.one (.a (.b (.v (.bool true))::g0C))) [] [] [] 400 Tryz.func217 hmA (by kernel_rfl) (fun β=>by kernel_rfl)
def Pp.mayE:Pp→List (Ev Tryz.prog)
 | .inf=>[sInfinity.e]
 | .fin a b=>[(sGMay a b).e]
 | .odd x y h=>[sInfinity.e,eqEvP true true x y r40 r40 false (odd_ne h)]
def sPMay (p:Pp):Y.Spec Tryz.prog :=
 Y.Spec.auto Tryz.call171 [.one (.a p.C)] [] (.one (.c (.b (.v (.bool p.B))))) []
  p.mayE [(2,4)] 400 Tryz.func171 hmA (by rcases p with _ | ⟨_ | _,_ | _⟩ | _<;>kernel_rfl) (fun β=>by rcases p with _ | ⟨_ | _,_ | _⟩ | _<;>kernel_rfl)
theorem gres {z w:GQ} (h:z=w):SV.one (.a (gC z))=.one (.a (gC w)):=by rw [h]
theorem Sz.le {i k:Nat} {x:Rat} (h:Sz i x) (hk:Nat.ble i k=true:=by decide):Sz k x:=h.mono (Nat.le_of_ble_eq_true hk)
theorem GSz.le {i k:Nat} {z:GQ} (h:GSz i z) (hk:Nat.ble i k=true:=by decide):GSz k z:=h.mono (Nat.le_of_ble_eq_true hk)
theorem gsub_eq (z w:GQ):gadd z (gneg w)=gsub z w:=by
 unfold gadd gneg gsub
 simp only [Rat.sub_eq_add_neg]
theorem gdiv_eq (z w:GQ):gscale (gmul z (qW6 w)) (Rat.divInt 1 1/qW1 w)=gdiv z w:=by
 unfold gdiv
 congr 1
 rw [Rat.div_def,show (Rat.divInt 1 1)=1 by rfl,Rat.one_mul]
abbrev svG (z:GQ):SV:=.one (.a (gC z))
abbrev svF (x:Rat):SV:=.one (.a (fC x))
section
variable {z w:GQ} {x:Rat}
def sR4Neg (z:GQ):Y.Spec Tryz.prog:=Y.Spec.auto Tryz.call169 [svG z] [] (svG (gneg z)) [] [(sR3Neg z.re).e,(sR3Neg z.im).e] [(1,7)] 400 Tryz.func169 hmA (by kernel_rfl) (fun β=>by kernel_rfl)
def sR4Conj (z:GQ):Y.Spec Tryz.prog:=Y.Spec.auto Tryz.call178 [svG z] [] (svG (qW6 z)) [] [(sR3Neg z.im).e] [(1,6)] 400 Tryz.func178 hmA (by kernel_rfl) (fun β=>by kernel_rfl)
def sR4Plus (hz:GSz KE z) (hw:GSz KE w):Y.Spec Tryz.prog:=Y.Spec.auto Tryz.call291 [svG z,svG w] [] (svG (gadd z w)) [] [(sR3Plus hz.1.le hw.1.le).e,(sR3Plus hz.2.le hw.2.le).e] [(1,11)] 400 Tryz.func291 hmA (by kernel_rfl) (fun β=>by kernel_rfl)
def sR4Minus (hz:GSz KE z) (hw:GSz KE w):Y.Spec Tryz.prog:=(Y.Spec.auto Tryz.call228 [svG z,svG w] [] (svG (gadd z (gneg w))) [] [(sR4Neg w).e,(sR4Plus hz hw.neg).e] [(1,4)] 400 Tryz.func228 hmA (by kernel_rfl) (fun β=>by kernel_rfl)).conv (svG (gsub z w)) (gres (gsub_eq z w))
def sR4Times (hz:GSz KE z) (hw:GSz KE w):Y.Spec Tryz.prog:=Y.Spec.auto Tryz.call51 [svG z,svG w] [] (svG (gmul z w)) []
 [(zQ5 hz.1.le hw.1.le).e,(zQ5 hz.2.le hw.2.le).e,(sR3Minus (hz.1.mul hw.1).le (hz.2.mul hw.2).le).e,(zQ5 hz.1.le hw.2.le).e,(zQ5 hz.2.le hw.1.le).e,(sR3Plus (hz.1.mul hw.2).le (hz.2.mul hw.1).le).e] [(1,12),(2,12)] 400 Tryz.func51 hmA (by kernel_rfl) (fun β=>by kernel_rfl)
def sR4Dot (hz:GSz KE z) (hw:GSz KE w):Y.Spec Tryz.prog:=Y.Spec.auto Tryz.call299 [svG z,svG w] [] (svF (z.re*w.re+z.im*w.im)) []
 [(zQ5 hz.1.le hw.1.le).e,(zQ5 hz.2.le hw.2.le).e,(sR3Plus (hz.1.mul hw.1).le (hz.2.mul hw.2).le).e] [(1,11)] 400 Tryz.func299 hmA (by kernel_rfl) (fun β=>by kernel_rfl)
def sR4Norm (hz:GSz KE z):Y.Spec Tryz.prog:=Y.Spec.auto Tryz.call179 [svG z] [] (svF (qW1 z)) [] [(sR4Dot hz hz).e] [] 400 Tryz.func179 hmA (by kernel_rfl) (fun β=>by kernel_rfl)
def sR4Scale (hz:GSz K3 z) (hx:Sz K3 x):Y.Spec Tryz.prog:=Y.Spec.auto Tryz.call177 [svG z,svF x] [] (svG (gscale z x)) [] [(zQ5 hz.1 hx).e,(zQ5 hz.2 hx).e] [(1,9)] 400 Tryz.func177 hmA (by kernel_rfl) (fun β=>by kernel_rfl)
theorem sz_one:Sz 1 (Rat.divInt 1 1):=Sz.small (by decide)
def sR4Over (hz:GSz KE z) (hw:GSz KE w) (h0:qQ6 w=false):Y.Spec Tryz.prog:=(Y.Spec.auto Tryz.call50 [svG z,svG w] [] (svG (gscale (gmul z (qW6 w)) (Rat.divInt 1 1/qW1 w))) []
 [(sR4Conj w).e,(sR4Times hz hw.conj).e,(sR3Int 1 (by decide)).e,(sR4Norm hw).e,(sR3Over sz_one.le hw.norm.le (zY5 h0)).e,(sR4Scale (hz.mul hw.conj).le (sz_one.div hw.norm (zY5 h0)).le).e] [(1,9)] 400 Tryz.func50 hmA (by kernel_rfl) (fun β=>by kernel_rfl)).conv (svG (gdiv z w)) (gres (gdiv_eq z w))
end
def sR4Int (n m:Int) (hn : -9223372036854775808≤n∧n≤9223372036854775807:=by decide) (hm : -9223372036854775808≤m∧m≤9223372036854775807:=by decide):Y.Spec Tryz.prog :=
 Y.Spec.auto Tryz.call55 [.one (.c (.b (.v (.int .i64 n)))),.one (.c (.b (.v (.int .i64 m))))] [] (svG (gint n m)) [] [(sR3Int n hn).e,(sR3Int m hm).e] [] 400 Tryz.func55 hmA (by kernel_rfl) (fun β=>by kernel_rfl)
theorem sign_num (x:Rat) {b:Bool} (h:decide (x=0)=b):Value.bool (x.num.sign==0)=.bool b:=zW7 h
def sR4Zero (z:GQ) {b:Bool} (hb:qQ6 z=b):Y.Spec Tryz.prog :=
 ⟨152,Tryz.call152,[svG z],[],.one (.c (.b (.v (.bool b)))),[],fun β w hh=>by
  cases h1:decide (z.re=0) with
  | false =>
   obtain rfl:b=false:=by rw [← hb]; unfold qQ6; rw [h1]; rfl
   exact qQ1 (evs:=[(sR3Sign (x:=z.re) rfl).e,.eqv 6 (.bool (z.re.num.sign==0)) (.bool false) (sign_num _ h1)]) (Ns:=[]) (m:=400) Tryz.func152 hmA (fun β=>by kernel_rfl) (by kernel_rfl) β w hh
  | true =>
   obtain rfl:b=decide (z.im=0):=by rw [← hb]; unfold qQ6; rw [h1]; rfl
   cases h2:decide (z.im=0) with
   | false=>exact qQ1 (evs:=[(sR3Sign (x:=z.re) rfl).e,.eqv 6 (.bool (z.re.num.sign==0)) (.bool true) (sign_num _ h1),(sR3Sign (x:=z.im) rfl).e,.eqv 11 (.bool (z.im.num.sign==0)) (.bool false) (sign_num _ h2)]) (Ns:=[]) (m:=400) Tryz.func152 hmA (fun β=>by kernel_rfl) (by kernel_rfl) β w hh
   | true=>exact qQ1 (evs:=[(sR3Sign (x:=z.re) rfl).e,.eqv 6 (.bool (z.re.num.sign==0)) (.bool true) (sign_num _ h1),(sR3Sign (x:=z.im) rfl).e,.eqv 11 (.bool (z.im.num.sign==0)) (.bool true) (sign_num _ h2)]) (Ns:=[]) (m:=400) Tryz.func152 hmA (fun β=>by kernel_rfl) (by kernel_rfl) β w hh,by kernel_rfl⟩
def Fp.may3:Fp→Y.Spec Tryz.prog
 | .ok x h=>sR3May _ _ _ _ true (qK5 (fitF x h))
 | .no b c s t h hs ht=>sR3May b c s t false (zX7 h)
def may4E (a b:Fp):List (Ev Tryz.prog):=match a with
 | .ok ..=>[a.may3.e,b.may3.e]
 | .no ..=>[a.may3.e]
def sR4May (a b:Fp):Y.Spec Tryz.prog :=
 Y.Spec.auto Tryz.call75 [.one (.a (a.C++b.C))] [] (.one (.c (.b (.v (.bool (a.B&&b.B)))))) [] (may4E a b) [] 400 Tryz.func75 hmA (by cases a<;>cases b<;>kernel_rfl) (fun β=>by cases a<;>cases b<;>kernel_rfl)
def Fp.raw:Fp→R4
 | .ok x _=>⟨decide (x.num<0),mag x.num.natAbs,false,mag x.den⟩
 | .no b c s t _ _ _=>⟨b,s,c,t⟩
def Pp.rI:Pp→Bool
 | .fin ..=>false
 | _=>true
def Pp.rX:Pp→R4
 | .inf=>r40
 | .fin a _=>a.raw
 | .odd x _ _=>x
def Pp.rY:Pp→R4
 | .inf=>r40
 | .fin _ b=>b.raw
 | .odd _ y _=>y
def rawC (i:Bool) (x y:R4):List Lf:=.b (.v (.bool i))::(x.L++y.L)
theorem Pp.C_raw (p:Pp):p.C=rawC p.rI p.rX p.rY:=by rcases p with _ | ⟨_ | _,_ | _⟩ | _<;>rfl
def Y.Spec.as {P:Program} (S:Y.Spec P) (args:List SV) (res:SV) (ha:S.args=args) (hr:S.res=res):Y.Spec P :=
 ⟨S.f,S.en,args,S.obs,res,S.news,fun β w hh=>by subst ha; subst hr; exact S.ok β w hh,by subst ha; subst hr; exact S.closed⟩
def fR (x:Rat):R4:=⟨decide (x.num<0),mag x.num.natAbs,false,mag x.den⟩
def Pt.i:Pt→Bool
 | .inf=>true
 | .fin _=>false
def Pt.x:Pt→R4
 | .inf=>r40
 | .fin z=>fR z.re
def Pt.y:Pt→R4
 | .inf=>r40
 | .fin z=>fR z.im
abbrev svR (i:Bool) (x y:R4):SV:=.one (.a (rawC i x y))
abbrev svP (p:Pt):SV:=svR p.i p.x p.y
def FitP:Pt→Prop
 | .inf=>True
 | .fin z=>FitG z
theorem FitP.sz {p:Pt} (h:FitP p):PSz 1024 p:=by
 cases p
 · trivial
 · exact ⟨h.1.sz,h.2.sz⟩
structure Rw where
 i:Bool
 x:R4
 y:R4
def Rw.ok (r:Rw):Prop:=(r.x.s.size≤maxLen∧r.x.t.size≤maxLen)∧r.y.s.size≤maxLen∧r.y.t.size≤maxLen
def Pt.w (p:Pt):Rw:=⟨p.i,p.x,p.y⟩
def Pp.w (p:Pp):Rw:=⟨p.rI,p.rX,p.rY⟩
theorem fp_of (x:R4) (h1:x.s.size≤maxLen) (h2:x.t.size≤maxLen):∃ a:Fp,a.raw=x:=by
 obtain ⟨b,s,c,t⟩:=x
 rcases fp_all b c s t with ⟨q,h,rfl,rfl,rfl,rfl⟩ | h
 · exact ⟨.ok q h,rfl⟩
 · exact ⟨.no b c s t h h1 h2,rfl⟩
theorem pp_of (r:Rw) (h:r.ok):∃ p:Pp,p.w=r:=by
 obtain ⟨i,x,y⟩:=r
 cases i
 · obtain ⟨a,rfl⟩:=fp_of x h.1.1 h.1.2
   obtain ⟨b,rfl⟩:=fp_of y h.2.1 h.2.2
   exact ⟨.fin a b,rfl⟩
 · by_cases h0:x=⟨false,⟨#[]⟩,false,⟨#[]⟩⟩∧y=⟨false,⟨#[]⟩,false,⟨#[]⟩⟩
   · obtain ⟨rfl,rfl⟩:=h0
     exact ⟨.inf,rfl⟩
   · exact ⟨.odd x y h0,rfl⟩
theorem fR_inj {x y:Rat} (h:fR x=fR y):x=y:=by
 injection h with h1 h2 h3 h4
 have hn:x.num.natAbs=y.num.natAbs:=mag_inj h2
 have hd:x.den=y.den:=mag_inj h4
 have hb:(x.num<0)=(y.num<0):=by simpa using h1
 refine Rat.ext ?_ hd
 by_cases h0:x.num<0
 · have:y.num<0:=by rw [← hb]; exact h0
   omega
 · have:¬ y.num<0:=by rw [← hb]; exact h0
   omega
theorem Pt.w_inj {p q:Pt} (h:p.w=q.w):p=q:=by
 cases p<;>cases q
 · rfl
 · injection h with h1; cases h1
 · injection h with h1; cases h1
 · rename_i z w
   injection h with _ h2 h3
   exact congrArg Pt.fin (GQ.ext2 (fR_inj h2) (fR_inj h3))
def rwB (i i':Bool) (x y x' y':R4):Bool:=(i==i')&&((x.eq x'&&(y.eq y'&&true))&&true)
theorem rwB_iff {i i':Bool} {x y x' y':R4}:rwB i i' x y x' y'=true↔i=i'∧x=x'∧y=y':=by
 unfold rwB
 simp only [Bool.and_true,Bool.and_eq_true,R4.eq_iff,beq_iff_eq]
def ptB (p q:Pt):Bool:=rwB p.i q.i p.x p.y q.x q.y
theorem ptB_iff {p q:Pt}:ptB p q=true↔p=q:=by
 unfold ptB
 rw [rwB_iff]
 constructor
 · rintro ⟨h1,h2,h3⟩
   exact Pt.w_inj (by unfold Pt.w; rw [h1,h2,h3])
 · rintro rfl; exact ⟨rfl,rfl,rfl⟩
open Classical in
noncomputable def paI (p:Pt):Bool:=if FitP p then p.i else false
open Classical in
noncomputable def paX (p:Pt):R4:=if FitP p then p.x else r40
open Classical in
noncomputable def paY (p:Pt):R4:=if FitP p then p.y else r40
theorem pa_fit {p:Pt} (h:FitP p):paI p=p.i∧paX p=p.x∧paY p=p.y:=⟨if_pos h,if_pos h,if_pos h⟩
theorem pa_not {p:Pt} (h:¬ FitP p):paI p=false∧paX p=r40∧paY p=r40:=⟨if_neg h,if_neg h,if_neg h⟩
theorem paK_fit {p:Pt} (h:FitP p):paK p=0:=by
 cases p
 · rfl
 · exact (zX1 h).2
theorem paK_not {p:Pt} (h:¬ FitP p):paK p=4:=by
 cases p
 · exact absurd trivial h
 · exact (ga_not h).2
theorem paC_raw (p:Pt):paC p=rawC (paI p) (paX p) (paY p):=by
 by_cases h:FitP p
 · rw [(pa_fit h).1,(pa_fit h).2.1,(pa_fit h).2.2]
   cases p
   · rfl
   · show _::gaC _=_
     rw [(zX1 h).1]; rfl
 · rw [(pa_not h).1,(pa_not h).2.1,(pa_not h).2.2]
   cases p
   · exact absurd trivial h
   · show _::gaC _=_
     rw [(ga_not h).1]; rfl
def mC (m:MQ):List Lf:=gC m.a++gC m.b++gC m.c++gC m.d++[.b (.v (.bool m.t))]
abbrev svM (m:MQ):SV:=.one (.a (mC m))
theorem gz_true {z:GQ}:qQ6 z=true↔z=g0:=by
 rw [gzero_iff]
 exact ⟨fun h=>GQ.ext2 h.1 h.2,fun h=>by rw [h]; exact ⟨rfl,rfl⟩⟩
theorem gz_false {z:GQ}:qQ6 z=false↔z≠g0:=by
 cases h:qQ6 z with
 | true=>exact ⟨fun e=>Bool.noConfusion e,fun e=>absurd (gz_true.1 h) e⟩
 | false=>exact ⟨fun _ e=>by rw [gz_true.2 e] at h; exact Bool.noConfusion h,fun _=>rfl⟩
theorem gnorm_mul (z w:GQ):qW1 (gmul z w)=qW1 z*qW1 w:=by
 simp only [qW1,gmul]; grind
theorem gnorm_zero {z:GQ} (h:qW1 z=0):z=g0:=by
 cases h1:qQ6 z with
 | true=>exact gz_true.1 h1
 | false=>exact absurd h (zY5 h1)
theorem gmul_zero {z w:GQ} (h:gmul z w=g0):z=g0∨w=g0:=by
 have h1:qW1 z*qW1 w=0:=by rw [← gnorm_mul,h]; simp only [qW1,g0]; grind
 rcases Rat.mul_eq_zero.1 h1 with h | h
 · exact .inl (gnorm_zero h)
 · exact .inr (gnorm_zero h)
theorem gmul_ne {z w:GQ} (h:z≠g0) (k:w≠g0):gmul z w≠g0:=fun e=>(gmul_zero e).elim h k
theorem gnorm_inv {w:GQ} (h:w≠g0):qW1 w*(qW1 w)⁻¹=1:=Rat.mul_inv_cancel _ (zY5 (gz_false.2 h))
theorem zK0 {z w:GQ} (h:w≠g0):gmul (gdiv z w) w=z:=by
 have hn:=gnorm_inv h
 unfold gdiv
 generalize hi:(qW1 w)⁻¹=i at hn
 unfold qW1 at hn
 refine GQ.ext2 ?_ ?_
 · simp only [gmul,gscale,qW6]; grind
 · simp only [gmul,gscale,qW6]; grind
theorem gmul_cancel {z w u:GQ} (h:u≠g0) (e:gmul z u=gmul w u):z=w:=by
 have h1:gmul (gsub z w) u=g0:=by
  have e1:=congrArg GQ.re e
  have e2:=congrArg GQ.im e
  simp only [gmul] at e1 e2
  refine GQ.ext2 ?_ ?_
  · simp only [gmul,gsub,g0]; grind
  · simp only [gmul,gsub,g0]; grind
 rcases gmul_zero h1 with k | k
 · have e1:=congrArg GQ.re k
   have e2:=congrArg GQ.im k
   simp only [gsub,g0] at e1 e2
   exact GQ.ext2 (by grind) (by grind)
 · exact absurd k h
theorem zX0 {z w u:GQ} (h:w≠g0):gdiv z w=u↔z=gmul u w:=by
 constructor
 · intro e; rw [← e,zK0 h]
 · intro e; exact gmul_cancel h (by rw [zK0 h,e])
theorem gneg_ne {z:GQ} (h:z≠g0):gneg z≠g0:=fun e=>h (by
 have e1:=congrArg GQ.re e
 have e2:=congrArg GQ.im e
 simp only [gneg,g0] at e1 e2
 exact GQ.ext2 (by show z.re=0; grind) (by show z.im=0; grind))
theorem gconj_ne {z:GQ} (h:z≠g0):qW6 z≠g0:=fun e=>h (by
 have e1:=congrArg GQ.re e
 have e2:=congrArg GQ.im e
 simp only [qW6,g0] at e1 e2
 exact GQ.ext2 e1 (by show z.im=0; grind))
def Reg (m:MQ):Prop:=mdet m≠g0
theorem Reg.by_ {m:MQ} (h:Reg m) {b:Bool} (hb:qQ6 m.c=b):(bif b then m.d else m.c)≠g0:=by
 cases b
 · exact gz_false.1 hb
 · intro e
   refine h ?_
   have hc:=gz_true.1 hb
   unfold mdet
   rw [hc,show m.d=g0 from e]
   refine GQ.ext2 ?_ ?_<;>(simp only [gsub,gmul,g0]; grind)
theorem Reg.by0 {m:MQ} (h:Reg m) {b:Bool} (hb:qQ6 m.c=b):qQ6 (bif b then m.d else m.c)=false:=gz_false.2 (h.by_ hb)
theorem det_norm {m:MQ} {b:Bool} {u:GQ} (hu:(bif b then m.d else m.c)=u) (h:u≠g0):gmul (gmul (mdet (qV8 m b)) u) u=mdet m:=by
 unfold qV8
 rw [hu]
 have ha:=zK0 (z:=m.a) h
 have hb:=zK0 (z:=m.b) h
 have hc:=zK0 (z:=m.c) h
 have hd:=zK0 (z:=m.d) h
 unfold mdet
 show gmul (gmul (gsub (gmul (gdiv m.a u) (gdiv m.d u)) (gmul (gdiv m.b u) (gdiv m.c u))) u) u=_
 rw [← ha,← hb,← hc,← hd]
 rw [ha,hb,hc,hd]
 generalize gdiv m.a u=a' at *
 generalize gdiv m.b u=b' at *
 generalize gdiv m.c u=c' at *
 generalize gdiv m.d u=d' at *
 rw [← ha,← hb,← hc,← hd]
 refine GQ.ext2 ?_ ?_<;>(simp only [gsub,gmul]; grind)
theorem Reg.norm {m:MQ} (h:Reg m) {b:Bool} (hu:(bif b then m.d else m.c)≠g0):Reg (qV8 m b):=fun e=>h (by
 rw [← det_norm rfl hu,e]
 refine GQ.ext2 ?_ ?_<;>(simp only [gmul,g0]; grind))
theorem Reg.undo0 {m:MQ} (h:Reg m):Reg (qK1 m):=fun e=>h (by
 have e1:=congrArg GQ.re e
 have e2:=congrArg GQ.im e
 simp only [mdet,qK1,gsub,gmul,gneg,g0] at e1 e2
 refine GQ.ext2 ?_ ?_<;>(simp only [mdet,gsub,gmul,g0]; grind))
theorem Reg.conj {m:MQ} (h:Reg m) (t:Bool):Reg (zK5 m t):=by
 cases t
 · exact h
 · intro e
   refine h ?_
   have e1:=congrArg GQ.re e
   have e2:=congrArg GQ.im e
   simp only [mdet,zK5,cond_true,gsub,gmul,qW6,g0] at e1 e2
   refine GQ.ext2 ?_ ?_<;>(simp only [mdet,gsub,gmul,g0]; grind)
theorem det_beh (m n:MQ):mdet (mbeh m n)=gmul (mdet m) (mdet (zK5 n m.t)):=by
 unfold mbeh mdet
 generalize zK5 n m.t=n'
 refine GQ.ext2 ?_ ?_<;>(simp only [gsub,gadd,gmul]; grind)
theorem Reg.beh {m n:MQ} (h:Reg m) (k:Reg n):Reg (mbeh m n):=by
 unfold Reg
 rw [det_beh]
 exact gmul_ne h (k.conj _)
theorem gint00:gint 0 0=g0:=rfl
theorem gint10:gint 1 0=⟨1,0⟩:=rfl
theorem across_ne {p q:Pt} (h:p≠q):qZ1 p q≠g0:=by
 intro e
 have e1:=congrArg GQ.re e
 have e2:=congrArg GQ.im e
 cases p<;>cases q<;>simp only [qZ1,byA,byB,gint00,gint10,gsub,gmul,g0] at e1 e2
 · exact h rfl
 · exact absurd e1 (by grind)
 · exact absurd e1 (by grind)
 · rename_i z w
   refine h (congrArg Pt.fin (GQ.ext2 ?_ ?_))
   · grind
   · grind
theorem Reg.chart {p q r:Pt} (h1:p≠q) (h2:q≠r) (h3:p≠r):Reg (qZ3 p q r):=by
 have k1:=across_ne h1
 have k2:=across_ne h2
 have k3:=across_ne h3
 unfold Reg
 have:mdet (qZ3 p q r)=gmul (gmul (qZ1 q r) (gneg (qZ1 p q))) (qZ1 p r):=by
  unfold mdet qZ3 qZ1
  generalize byA p=a
  generalize byB p=b
  generalize byA q=c
  generalize byB q=d
  generalize byA r=e
  generalize byB r=f
  refine GQ.ext2 ?_ ?_<;>(simp only [gsub,gmul,gneg]; grind)
 rw [this]
 exact gmul_ne (gmul_ne k2 (gneg_ne k1)) k3
structure BSpec (P:Program) where
 f:FuncId
 en:qY8 P f
 args:List SV
 cs:List Lf
 t:TypeId
 r:Value
 ok:∀ β w,(Ob.box cs t).holds β w (β 0)→Calls P f (args.map (SV.den β)).toArray w fun e w'=>e=.returned r∧Below w.heap.size w w'
 cl:(cs.all (Lf.of fun _=>false)&&args.all (SV.of fun k=>Nat.beq k 0))=true
 hr:∀ β,(tag r).den β=r
def bkOf:List SV→Nat
 | []=>0
 | .one (.c (.b (.s k _ _ _)))::_=>k
 | _::r=>bkOf r
theorem cells_closed {β β':Env} {cs:List Lf} (h:cs.all (Lf.of fun _=>false)=true):cs.map (Lf.den β)=cs.map (Lf.den β') :=
 List.map_congr_left fun x hx=>Lf.den_congr (q:=fun _=>false) (fun k hk=>by cases hk) x (List.all_eq_true.1 h x hx)
def BSpec.e {P:Program} (S:BSpec P):Ev P:=.dyn (fun o _ _=>qY3 o) fun _ xs ob=>lit (bkOf xs) fun i =>
 .call S.f S.en (fun β=>(S.args.map (SV.den fun _=>β i)).toArray) [(i,.box S.cs S.t)] 0 (tag S.r) [] (fun β w h=>of_pure0 (by
  have hc:=S.cl
  rw [Bool.and_eq_true] at hc
  refine S.ok (fun _=>β i) w ?_
  have h1:(β i).one∧w.heap[(β i).b]?=some (.cells (S.cs.map (Lf.den β)).toArray S.t (0,0)):=h _ (List.mem_singleton.2 rfl)
  show (β i).one∧w.heap[(β i).b]?=some (.cells (S.cs.map (Lf.den fun _=>β i)).toArray S.t (0,0))
  rw [cells_closed (β':=β) hc.1]
  exact h1) S.hr)
theorem qJ2 {P:Program} {f:FuncId} {fn:Func} {args:List SV} {cs:List Lf} {t:TypeId} {r:Value} (evs:List (Ev P)) (Ns:List (Nat × Nat)) (m:Nat) (hf:P.funcs[f]?=some fn) (hm:P.follows .mixedOrders=true)
  (h:∀ β,(allS P fn args [.box cs t] evs Ns m (tag r) [] β).map Prod.fst=(allS P fn args [.box cs t] evs Ns m (tag r) [] β).map Prod.snd)
  (hB:(args.all (SV.of fun k=>Nat.blt k 1)&&[Ob.box cs t].all fun x=>x.of (fun k=>Nat.blt k 1)&&x.own)=true) (hr:∀ β,(tag r).den β=r) (β:Env) (w:World) (hh:(Ob.box cs t).holds β w (β 0)) :
  Calls P f (args.map (SV.den β)).toArray w fun e w'=>e=.returned r∧Below w.heap.size w w':=by
 rw [Bool.and_eq_true] at hB
 refine (sx (P:=P) args [.box cs t] evs Ns m (tag r) [] hf hm (fun β=>qQ0 (h β)) hB.1 hB.2 β w (fun k o ho=>?_)).mono ?_
 · cases k with
   | zero=>simp only [List.getElem?_cons_zero] at ho; obtain rfl:=Option.some.inj ho; exact hh
   | succ k=>simp at ho
 · rintro e w' ⟨β',q,obj,e1,rfl,e2,e4,e5,g⟩
   exact ⟨by rw [hr],g.bel⟩
def Rw.C (r:Rw):List Lf:=rawC r.i r.x r.y
abbrev KP:Nat:=1000000
def minv0 (m:MQ):MQ:=zK5 (qK1 m) m.t
theorem minv0_sz {k:Nat} {m:MQ} (h:MSz k m):MSz k (minv0 m):=h.undo0.conj _
theorem maC_fit {m:MQ} (h:FitM m):maC m=mC m∧maK m=0:=by
 obtain ⟨h1,h2⟩:=maC_yes h
 refine ⟨?_,h2⟩
 rw [h1,(zX1 h.1).1,(zX1 h.2.1).1,(zX1 h.2.2.1).1,(zX1 h.2.2.2).1]
 rfl
abbrev KQ:Nat:=250
abbrev csz (k:Nat):Nat:=k+(k+k+(k+k)+1+(k+k+(k+k)+1)+1)+(k+(k+k+(k+k)+1+(k+k+(k+k)+1)+1))+1
theorem mchart0_sz {k:Nat} {p q r:Pt} (hp:PSz k p) (hq:PSz k q) (hr:PSz k r) (hk:1≤k):MSz (csz k) (qZ3 p q r) :=
 ⟨(zH8 hk).mul (qK8 hq hr hk),((zH9 hp hk).mul (qK8 hq hr hk)).neg,(zH8 hk).mul (qK8 hq hp hk),((zH9 hr hk).mul (qK8 hq hp hk)).neg⟩
theorem minv_reg {m:MQ} (h:Reg m):Reg (minv0 m):=h.undo0.conj _
theorem gq_one_ne:(⟨1,0⟩:GQ)≠g0:=fun e=>by have:=congrArg GQ.re e; exact absurd this (by show (1:Rat)≠0; decide)
theorem gq_div_self {u:GQ} (h:u≠g0):gdiv u u=⟨1,0⟩:=by
 rw [zX0 h]
 refine GQ.ext2 ?_ ?_<;>(simp only [gmul]; grind)
theorem gq_div_one (z:GQ):gdiv z ⟨1,0⟩=z:=by
 rw [zX0 gq_one_ne]
 refine GQ.ext2 ?_ ?_<;>(simp only [gmul]; grind)
theorem ptB_ne' {p q:Pt} (h:p≠q):ptB p q=false:=by
 cases k:ptB p q
 · rfl
 · exact absurd (ptB_iff.1 k) h
def mnorm (m:MQ):MQ:=qV8 m (qQ6 m.c)
def Nrm (m:MQ):Prop:=(bif qQ6 m.c then m.d else m.c)=⟨1,0⟩
theorem Nrm.id {m:MQ} (h:Nrm m):mnorm m=m:=by
 unfold Nrm at h
 unfold mnorm qV8
 rw [h,gq_div_one,gq_div_one,gq_div_one,gq_div_one]
theorem Reg.nrm {m:MQ} (h:Reg m):Nrm (mnorm m):=by
 have h0:=h.by_ rfl
 unfold Nrm mnorm
 cases hc:qQ6 m.c with
 | false =>
  have hc':=gz_false.1 hc
  show (bif qQ6 (gdiv m.c m.c) then _ else gdiv m.c m.c)=_
  rw [gq_div_self hc',gz_false.2 gq_one_ne]
  rfl
 | true =>
  rw [hc] at h0
  have hd:m.d≠g0:=h0
  show (bif qQ6 (gdiv m.c m.d) then gdiv m.d m.d else _)=_
  have:qQ6 (gdiv m.c m.d)=true:=by
   rw [gz_true.1 hc,gz_true,zX0 hd]
   refine GQ.ext2 ?_ ?_<;>(simp only [gmul,g0]; grind)
  rw [this,gq_div_self hd]
  rfl
theorem Reg.mnorm {m:MQ} (h:Reg m):Reg (mnorm m):=h.norm (h.by_ rfl)
theorem Reg.b0 {m:MQ} (h:Reg m):qQ6 (bif qQ6 m.c then m.d else m.c)=false:=h.by0 rfl
theorem MSz.nrm {k:Nat} {m:MQ} (h:MSz k m) (hr:Reg m):MSz (dsz k) (Go.Proofs.YtbepimnlleilfaaGreat.mnorm m):=h.normB hr.b0
def mcmp (m n:MQ):MQ:=mnorm (mbeh m n)
def minv (m:MQ):MQ:=mnorm (minv0 m)
def mcha (p q r:Pt):MQ:=mnorm (qZ3 p q r)
def mid (t:Bool):MQ:=⟨gint 1 0,g0,g0,gint 1 0,t⟩
theorem Reg.cmp {m n:MQ} (h:Reg m) (k:Reg n):Reg (mcmp m n):=(h.beh k).mnorm
theorem Reg.id (t:Bool):Reg (mid t):=fun e=>by
 have:=congrArg GQ.re e
 simp only [mdet,mid,gint10,gsub,gmul,g0] at this
 exact absurd this (by grind)
theorem Nrm.cmp {m n:MQ} (h:Reg m) (k:Reg n):Nrm (mcmp m n):=(h.beh k).nrm
theorem Nrm.inv {m:MQ} (h:Reg m):Nrm (minv m):=(minv_reg h).nrm
def mof (p q r s u v:Pt) (t:Bool):MQ:=mcmp (minv (mcha s u v)) (mcmp (mid t) (mcha p q r))
end Go.Proofs.YtbepimnlleilfaaGreat
end
section
namespace Go.Proofs.YtbepimnlleilfaaGreat.Y
open Go Go.RowKit
set_option maxRecDepth 100000
def sSpotP (p:Pt) (h:FitP p):Spec Tryz.prog :=
 ⟨158,Tryz.call158,[.one (.a (lsX p.w.C))],[],.tup [.a (pL 0 p),.c (.b (.v (.bool true)))],pM p,fun β w hh=>by
  cases p with
  | inf=>exact (sSpot .inf).ok β w hh
  | fin z =>
   refine ((sSpot (.fin (.ok z.re h.1) (.ok z.im h.2))).ok β w hh).mono fun e w' ⟨xs,h1,he,h2,h3⟩=>⟨xs,h1,he,?_,h3⟩
   have h4:qZ0 w' [ratT z.re,ratT z.im] xs:=h2
   match xs,h4 with
   | [a,b],h4=>exact ⟨(ratT z.re).imp _ _ h4.1,(ratT z.im).imp _ _ h4.2.1,trivial⟩,by kernel_rfl⟩
def OpenNo (m:Mp) (t:Bool):Prop:=∀ (β:Env) (w:World),Calls Tryz.prog 144 (([.one (.a m.C)]:List SV).map (SV.den β)).toArray w fun e w'=>∃ xs:List Pl,qK2 β w 0 xs∧e=.returned ((SV.tup [mB 0 t,.c (.b (.v (.bool false)))]).den (extE β 0 xs))∧qZ0 w' any8 xs∧Below w.heap.size w w'
def sOpenNo {m:Mp} {t:Bool} (h:OpenNo m t):Spec Tryz.prog :=
 ⟨144,Tryz.call144,[.one (.a m.C)],[],.tup [mB 0 t,.c (.b (.v (.bool false)))],any8,fun β w _=>h β w,by kernel_rfl⟩
theorem newHold8 {w:World} {t1 t2 t3 t4 t5 t6 t7 t8:Thing} {xs:List Pl} (h:qZ0 w [t1,t2,t3,t4,t5,t6,t7,t8] xs):qZ0 w any8 xs:=by
 match xs,h with
 | [a,b,c,d,e,f,g,i],h=>exact ⟨an_of t1.st h.1,an_of t2.st h.2.1,an_of t3.st h.2.2.1,an_of t4.st h.2.2.2.1,an_of t5.st h.2.2.2.2.1,an_of t6.st h.2.2.2.2.2.1,an_of t7.st h.2.2.2.2.2.2.1,an_of t8.st h.2.2.2.2.2.2.2.1,trivial⟩
def MayQ (q:MQ):Prop:=FitM q∧qQ6 (mdet q)=false∧(qQ6 (gsub q.c (gint 1 0))=true∨qQ6 q.c=true∧qQ6 (gsub q.d (gint 1 0))=true)
theorem fp_fit {a:Fr} (h:a.a.B=true):∃ x,∃ k:Fit x,rL a.r=lsX (Fp.C (.ok x k)):=by
 obtain ⟨r,a,e⟩:=a
 cases a with
 | ok x hx=>exact ⟨x,hx,e.symm⟩
 | no=>cases h
theorem open_all (m:Mp):(∃ q,MayQ q∧m.C=mCl q)∨∃ t,OpenNo m t:=by
 by_cases hn:((m.a.a.B&&m.a'.a.B)&&(m.b.a.B&&m.b'.a.B)&&(m.c.a.B&&m.c'.a.B)&&(m.d.a.B&&m.d'.a.B))=true
 · simp only [Bool.and_eq_true] at hn
   obtain ⟨⟨⟨⟨p1,p2⟩,p3,p4⟩,p5,p6⟩,p7,p8⟩:=hn
   obtain ⟨x1,h1,e1⟩:=fp_fit p1
   obtain ⟨x2,h2,e2⟩:=fp_fit p2
   obtain ⟨x3,h3,e3⟩:=fp_fit p3
   obtain ⟨x4,h4,e4⟩:=fp_fit p4
   obtain ⟨x5,h5,e5⟩:=fp_fit p5
   obtain ⟨x6,h6,e6⟩:=fp_fit p6
   obtain ⟨x7,h7,e7⟩:=fp_fit p7
   obtain ⟨x8,h8,e8⟩:=fp_fit p8
   obtain ⟨q,hq⟩:∃ q:MQ,q=⟨⟨x1,x2⟩,⟨x3,x4⟩,⟨x5,x6⟩,⟨x7,x8⟩,m.t⟩:=⟨_,rfl⟩
   have hf:FitM q:=by rw [hq]; exact ⟨⟨h1,h2⟩,⟨h3,h4⟩,⟨h5,h6⟩,h7,h8⟩
   have hC:m.C=mCl q:=by
    unfold Mp.C
    rw [e1,e2,e3,e4,e5,e6,e7,e8,hq]
    rfl
   cases hd:qQ6 (mdet q) with
   | true =>
    refine .inr ⟨false,fun β w=>?_⟩
    rw [hC]
    exact (sOpenDet hf hd).ok β w (fun k t h=>by simp [sOpenDet] at h)
   | false =>
    obtain ⟨r1,k1⟩:∃ r,qQ6 (gsub q.c (gint 1 0))=r:=⟨_,rfl⟩
    obtain ⟨r2,k2⟩:∃ r,qQ6 q.c=r:=⟨_,rfl⟩
    obtain ⟨r3,k3⟩:∃ r,qQ6 (gsub q.d (gint 1 0))=r:=⟨_,rfl⟩
    cases hr:mayR r1 r2 r3 with
    | true =>
     refine .inl ⟨q,⟨hf,hd,?_⟩,hC⟩
     rw [k1,k2,k3]
     cases r1<;>cases r2<;>cases r3<;>first | exact .inl rfl | exact .inr ⟨rfl,rfl⟩ | cases hr
    | false =>
     refine .inr ⟨q.t,fun β w=>?_⟩
     rw [hC]
     refine ((sOpenM hf hd k1 k2 k3).ok β w (fun k t h=>by simp [sOpenM] at h)).mono fun e w' ⟨xs,h1,he,h2,h3⟩=>⟨xs,h1,?_,newHold8 h2,h3⟩
     rw [he]
     show Ending.returned ((SV.tup [mA 0 q,.c (.b (.v (.bool (mayR r1 r2 r3))))]).den (extE β 0 xs))=_
     rw [hr]
     rfl
 · refine .inr ⟨false,fun β w=>?_⟩
   exact (sOpenNum m rfl rfl rfl rfl (Bool.eq_false_iff.2 hn)).ok β w (fun k t h=>by simp [sOpenNum] at h)
def zQ6 {q:MQ} (h:MayQ q):Spec Tryz.prog :=
 ⟨144,Tryz.call144,[.one (.a (mCl q))],[],.tup [mA 0 q,.c (.b (.v (.bool true)))],mT q,fun β w hh=>by
  obtain ⟨hf,hd,hr⟩:=h
  have hk:mayR (qQ6 (gsub q.c (gint 1 0))) (qQ6 q.c) (qQ6 (gsub q.d (gint 1 0)))=true:=by
   unfold mayR
   rcases hr with h | ⟨h,k⟩
   · rw [h]; rfl
   · rw [h,k]; cases qQ6 (gsub q.c (gint 1 0))<;>rfl
  refine ((sOpenM hf hd rfl rfl rfl).ok β w hh).mono fun e w' ⟨xs,h1,he,h2,h3⟩=>⟨xs,h1,?_,h2,h3⟩
  rw [he]
  show Ending.returned ((SV.tup [mA 0 q,.c (.b (.v (.bool (mayR (qQ6 (gsub q.c (gint 1 0))) (qQ6 q.c) (qQ6 (gsub q.d (gint 1 0)))))))]).den (extE β 0 xs))=_
  rw [hk]
  rfl,by kernel_rfl⟩
end Go.Proofs.YtbepimnlleilfaaGreat.Y
end
section
namespace Go.Proofs.YtbepimnlleilfaaGreat
open Go.Proofs.YtbepimnlleilfaaGreat.Y
open Go Go.RowKit
set_option maxRecDepth 100000
def sR8unit:Y.Spec Tryz.prog:=Y.Spec.auto Tryz.call150 [] [] (svG (gint 1 0)) [] [(sR4Int 1 0).e] [] 400 Tryz.func150 hmA (by kernel_rfl) (fun β=>by kernel_rfl)
def sR8zero:Y.Spec Tryz.prog:=Y.Spec.auto Tryz.call151 [] [] (svG (gint 0 0)) [] [(sR4Int 0 0).e] [] 400 Tryz.func151 hmA (by kernel_rfl) (fun β=>by kernel_rfl)
abbrev KD:Nat:=1000000
abbrev KT:Nat:=125
abbrev P6 (p q r s u v:Pt) (k:Pt→Prop):Prop:=k p∧k q∧k r∧k s∧k u∧k v
section
variable {p q r s u v:Pt} (z:P6 p q r s u v (PSz KT)) (t:Bool)
theorem mid_sz (t:Bool) {k:Nat} (hk:1≤k:=by decide):MSz k (mid t):=by
 have h1:GSz k (gint 1 0):=(GSz.int (by decide) (by decide)).mono hk
 have h0:GSz k g0:=g0_sz hk
 exact ⟨h1,h0,h0,h1⟩
theorem mcha_sz {k:Nat} (hp:PSz k p) (hq:PSz k q) (hr:PSz k r) (hk:1≤k) (h0:Reg (qZ3 p q r)):MSz (dsz (csz k)) (mcha p q r):=(mchart0_sz hp hq hr hk).nrm h0
theorem minv_sz {k:Nat} {m:MQ} (h:MSz k m) (h0:Reg (minv0 m)):MSz (dsz k) (minv m):=(minv0_sz h).nrm h0
theorem mcmp_sz {i j:Nat} {m n:MQ} (h:MSz i m) (k:MSz j n) (h0:Reg (mbeh m n)):MSz (dsz (bsz i j)) (mcmp m n):=(h.beh k).nrm h0
structure Six (p q r s u v:Pt):Prop where
 a:p≠q
 b:q≠r
 c:r≠p
 d:s≠u
 e:u≠v
 f:v≠s
theorem Six.r1 (h:Six p q r s u v):Reg (qZ3 p q r):=Reg.chart h.a h.b (Ne.symm h.c)
theorem Six.r2 (h:Six p q r s u v):Reg (qZ3 s u v):=Reg.chart h.d h.e (Ne.symm h.f)
theorem Six.r3 (h:Six p q r s u v) (t:Bool):Reg (mbeh (mid t) (mcha p q r)):=(Reg.id t).beh h.r1.mnorm
theorem Six.r4 (h:Six p q r s u v):Reg (minv0 (mcha s u v)):=minv_reg h.r2.mnorm
theorem Six.r5 (h:Six p q r s u v) (t:Bool):Reg (mbeh (minv (mcha s u v)) (mcmp (mid t) (mcha p q r))):=h.r4.mnorm.beh (h.r3 t).mnorm
end
end Go.Proofs.YtbepimnlleilfaaGreat
end
section
namespace Go.Proofs.YtbepimnlleilfaaGreat.Y
open Go Go.RowKit
set_option maxRecDepth 100000
def eqEvPt {p q:Pt} {r:Bool} (h:ptB p q=r):Ev Tryz.prog:=eqEvP p.i q.i p.x p.y q.x q.y r h
def mob0:SC:=.a (lsX g0C++lsX g0C++lsX g0C++lsX g0C++[.b (.v (.bool false))])
def pt0:SC:=.a (.b (.v (.bool false))::lsX g0C)
theorem MayQ.reg {q:MQ} (h:MayQ q):Reg q:=gz_false.1 h.2.1
theorem sub_one {z:GQ} (h:qQ6 (gsub z (gint 1 0))=true):z=⟨1,0⟩:=by
 have:=gz_true.1 h
 have e1:=congrArg GQ.re this
 have e2:=congrArg GQ.im this
 simp only [gint10,gsub,g0] at e1 e2
 exact GQ.ext2 (by grind) (by grind)
theorem MayQ.nrm {q:MQ} (h:MayQ q):Nrm q:=by
 rcases h.2.2 with h1 | ⟨h1,h2⟩
 · unfold Nrm
   rw [sub_one h1,gz_false.2 gq_one_ne]
   rfl
 · unfold Nrm
   rw [h1,sub_one h2]
   rfl
def sBehR {m n:MQ} (h:MSz KE m) (k:MSz KE n) (h0:Reg (mbeh m n)):Spec Tryz.prog:=sBehind h k (b:=qQ6 (mbeh m n).c) rfl h0.b0
def sUndoR {m:MQ} (h:MSz KM m) (h0:Reg m):Spec Tryz.prog:=sUndo h (b:=qQ6 (minv0 m).c) rfl (minv_reg h0).b0
def sChaR {p q r:Pt} (hp:PSz KC p) (hq:PSz KC q) (hr:PSz KC r) (h0:Reg (qZ3 p q r)):Spec Tryz.prog:=sChart hp hq hr (b:=qQ6 (qZ3 p q r).c) rfl h0.b0
theorem nrm_b0 {m:MQ} (h:Nrm m):qQ6 (bif qQ6 m.c then m.d else m.c)=false:=by
 unfold Nrm at h
 rw [h]
 exact gz_false.2 gq_one_ne
noncomputable def sToldN {m:MQ} (h:MSz KM m) (h0:Nrm m):Spec Tryz.prog :=
 ⟨148,Tryz.call148,[mV 0 m],mM m,.tup [.a (lsX (maC m)),.c (.b (.v (.int .i64 (maK m))))],[],fun β w hh=>by
  have k:=(sToldM h (b:=qQ6 m.c) rfl (nrm_b0 h0)).ok β w hh
  rw [show (sToldM h (b:=qQ6 m.c) rfl (nrm_b0 h0)).res=.tup [.a (lsX (maC m)),.c (.b (.v (.int .i64 (maK m))))] from congrArg (fun m=>SV.tup [.a (lsX (maC m)),.c (.b (.v (.int .i64 (maK m))))]) h0.id] at k
  exact k,by kernel_rfl⟩
theorem send_sz {q:MQ} (h:MSz 1024 q) {p:Pt} (hp:PSz 1024 p) {b:Bool} (hb:qQ6 (msD q p)=b):PSz KB (msend q p b):=by
 cases b
 · exact (GSz.div (msN_sz h hp) (msD_sz h hp) hb).mono (by decide)
 · trivial
noncomputable def sAt {q:MQ} (h:MayQ q) {p:Pt} (hp:FitP p) {b:Bool} (hb:qQ6 (msD q p)=b):Spec Tryz.prog :=
 Spec.auto Tryz.call141 [.one (.a (mCl q)),.one (.a (lsX p.w.C))] [] (.tup [.a (lsX (paC (msend q p b))),.c (.b (.v (.int .i64 (paK (msend q p b)))))]) []
  [(zQ6 h).e,(sSpotP p hp).e,(sSend ((qX3 h.1).mono (by decide)) (hp.sz.mono (by decide)) hb).e,(sToldP (msend q p b) (send_sz (qX3 h.1) hp.sz hb)).e] [] 800 Tryz.func141 hmA (by cases b<;>kernel_rfl) (fun β=>by cases b<;>kernel_rfl)
noncomputable def sInv {q:MQ} (h:MayQ q):Spec Tryz.prog :=
 Spec.auto Tryz.call41 [.one (.a (mCl q))] [] (.tup [.a (lsX (maC (minv q))),.c (.b (.v (.int .i64 (maK (minv q)))))]) []
  [(zQ6 h).e,(sUndoR ((qX3 h.1).mono (by decide)) h.reg).e,(sToldN ((minv_sz (qX3 h.1) (minv_reg h.reg)).mono (by decide)) (Nrm.inv h.reg)).e] [] 800 Tryz.func41 hmA (by kernel_rfl) (fun β=>by kernel_rfl)
end Go.Proofs.YtbepimnlleilfaaGreat.Y
end
section
namespace Go.Proofs.YtbepimnlleilfaaGreat
theorem mag_1:mag 1=⟨#[1]⟩:=by unfold mag; rw [led_pos 1 (by decide),qY1]; rfl
theorem mag_2:mag 2=⟨#[2]⟩:=by unfold mag; rw [led_pos 2 (by decide),qY1]; rfl
theorem mag_0:mag 0=⟨#[]⟩:=by unfold mag; rw [qY1]; rfl
theorem dig_1:dig 1=[1]:=by rw [dig_pos 1 (by decide),qJ4]
theorem dig_2:dig 2=[2]:=by rw [dig_pos 2 (by decide),qJ4]
end Go.Proofs.YtbepimnlleilfaaGreat
namespace Go.Proofs.YtbepimnlleilfaaGreat.Y
open Go Go.RowKit
set_option maxRecDepth 100000
def WR (xs:List Nat) (w:World) (g:Pl):Prop:=(∀ c,¬ g.F c)∧Words w (.slice (g.v 0) xs.length (g.c 0)) xs
theorem wr_stable (xs:List Nat):Stable (WR xs) :=
 ⟨fun w g ⟨h,_⟩ c hc=>(h c hc).elim,fun w w' g ⟨h,k⟩ hb=>⟨h,k.below hb⟩,fun w w' g b o m n ⟨h,k⟩ hs ht _=>⟨h,Words.touchN k hs ht⟩⟩
def wrT (xs:List Nat):Thing:=thing (WR xs) (wr_stable xs)
def wPl (A:Option Addr) (c:Nat):Pl:=⟨0,fun _=>A,fun _=>c,fun _=>False,fun _=>undef⟩
theorem words_ok {s:ByteArray} {n:Nat} {xs:List Nat} (hs:s=mag n) (hm:s.size≤4294967296) (hx:dig n=xs) (β:Env) (w:World) :
  Calls Tryz.prog 279 #[.string s] w fun e w'=>∃ ys:List Pl,qK2 β w 0 ys∧e=.returned ((SV.one (.c (.b (.y 0 0 xs.length)))).den (extE β 0 ys))∧qZ0 w' [wrT xs] ys∧Below w.heap.size w w':=by
 refine (qW8 s n hs hm).mono fun e w' ⟨A,c,he,h1,h2⟩=>⟨[wPl A c],fun x hx c hc=>?_,?_,⟨⟨fun _ h=>h,?_⟩,trivial⟩,h2⟩
 · rw [List.mem_singleton.1 hx] at hc; exact hc.elim
 · rw [he,hx]; rfl
 · rw [hx] at h1; exact h1
def sWords {s:ByteArray} {n:Nat} {xs:List Nat} (hs:s=mag n) (hm:s.size≤4294967296) (hx:dig n=xs) {l:Nat} (hl:xs.length=l):Spec Tryz.prog :=
 ⟨279,Tryz.call279,[.one (.c (.b (.v (.string s))))],[],.one (.c (.b (.y 0 0 l))),[wrT xs],fun β w _=>by rw [← hl]; exact words_ok hs hm hx β w,by kernel_rfl⟩
theorem small_ok {xs:List Nat} {d:Nat} (h1:xs.length≤17179869184) (hd0:0<d) (hd:d<4294967296) {ys:List Nat} (hq:dig (val xs/d)=ys) {r:Nat} (hr:val xs % d=r) (β:Env) (w:World) (hh:(wrT xs).D w (β 0)) :
  Calls Tryz.prog 378 #[.slice ((β 0).v 0) xs.length ((β 0).c 0),.int .u64 (d:Int)] w fun e w'=>∃ zs:List Pl,qK2 β w 1 zs∧e=.returned ((SV.tup [.c (.b (.y 1 0 ys.length)),.c (.b (.v (.int .u64 (r:Int))))]).den (extE β 1 zs))∧qZ0 w' [wrT ys] zs∧Below w.heap.size w w':=by
 refine (small_any hh.2 h1 d hd0 hd).mono fun e w' ⟨v,he,h2,h3⟩=>?_
 rw [hq] at h2
 obtain ⟨A,c,rfl,hc⟩:=h2.shape
 refine ⟨[wPl A c],fun x hx c hc=>?_,?_,⟨⟨fun _ h=>h,h2⟩,trivial⟩,h3⟩
 · rw [List.mem_singleton.1 hx] at hc; exact hc.elim
 · rw [he,hr]; rfl
def sSmall {xs:List Nat} {d:Nat} (h1:xs.length≤17179869184) (hd0:0<d) (hd:d<4294967296) {ys:List Nat} (hq:dig (val xs/d)=ys) {r:Nat} (hr:val xs % d=r) {l m:Nat} (hl:xs.length=l) (hm:ys.length=m):Spec Tryz.prog :=
 ⟨378,Tryz.call378,[.one (.c (.b (.y 0 0 l))),.one (.c (.b (.v (.int .u64 (d:Int)))))],[wrT xs],.tup [.c (.b (.y 1 0 m)),.c (.b (.v (.int .u64 (r:Int))))],[wrT ys],fun β w hh=>by
  rw [← hl,← hm]; exact small_ok h1 hd0 hd hq hr β w (hh 0 _ rfl),by kernel_rfl⟩
theorem u8_some:(Tryz.prog.info? 5).isSome=true:=by kernel_rfl
noncomputable def appB:AppT Tryz.prog :=
 ⟨306,5,(Tryz.prog.info? 5).get u8_some,.int .u8 0,1,1,Tryz.underlying306,(Option.some_get u8_some).symm,by kernel_rfl,by kernel_rfl,by kernel_rfl,rfl,by decide,by decide⟩
abbrev tS (s:ByteArray):SV:=.one (.c (.b (.v (.string s))))
abbrev tW (b:Bool) (s:ByteArray):SV:=.one (.a [.b (.v (.bool b)),.b (.v (.string s))])
def smE1:Ev Tryz.prog:=(sSmall (xs:=[1]) (d:=1000000000) (by decide) (by decide) (by decide) (ys:=[]) (by rw [show val [1]/1000000000=0 by decide]; exact qJ4) (r:=1) (by decide) (l:=1) rfl (m:=0) rfl).e
def smE2:Ev Tryz.prog:=(sSmall (xs:=[2]) (d:=1000000000) (by decide) (by decide) (by decide) (ys:=[]) (by rw [show val [2]/1000000000=0 by decide]; exact qJ4) (r:=2) (by decide) (l:=1) rfl (m:=0) rfl).e
noncomputable def sTxtM1:Spec Tryz.prog:=Spec.auto Tryz.call351 [tW true ⟨#[1]⟩] [] (tS ⟨#[45,49]⟩) []
 [(sWords (s:=⟨#[1]⟩) (n:=1) mag_1.symm (by decide) dig_1 (l:=1) rfl).e,smE1,.app appB,.app appB] [] 3000 Tryz.func351 hmA (by kernel_rfl) (fun β=>by kernel_rfl)
noncomputable def sTxt2:Spec Tryz.prog:=Spec.auto Tryz.call351 [tW false ⟨#[2]⟩] [] (tS ⟨#[50]⟩) []
 [(sWords (s:=⟨#[2]⟩) (n:=2) mag_2.symm (by decide) dig_2 (l:=1) rfl).e,smE2,.app appB] [] 3000 Tryz.func351 hmA (by kernel_rfl) (fun β=>by kernel_rfl)
end Go.Proofs.YtbepimnlleilfaaGreat.Y
end
section
namespace Go.Proofs.YtbepimnlleilfaaGreat.Y
open Go Go.RowKit
set_option maxRecDepth 100000
noncomputable def sIsA {m n:MQ} (h:MSz KE m) (k:MSz KE n) (ht:m.t=false) (hu:n.t=false) (h0:qQ6 (gsub m.a n.a)=false):Spec Tryz.prog :=
 ⟨289,Tryz.call289,[mV 0 m,mV 8 n],mM m++mM n,.one (.c (.b (.v (.bool false)))),[],fun β w hh=>by
  obtain ⟨a,b,c,d,t⟩:=m
  obtain ⟨a',b',c',d',t'⟩:=n
  cases ht
  cases hu
  exact qQ1 (args:=[mV 0 ⟨a,b,c,d,false⟩,mV 8 ⟨a',b',c',d',false⟩]) (obs:=mM ⟨a,b,c,d,false⟩++mM ⟨a',b',c',d',false⟩) (evs:=[(zW9 (z:=a) (w:=a') h.a k.a h0).e]) (Ns:=[]) (m:=400) Tryz.func289 hmA (fun β=>by kernel_rfl) (by kernel_rfl) β w hh,by kernel_rfl⟩
theorem zW6 {t:Bool}:MSz KE (qV1 t):=⟨(GSz.int (by decide) (by decide)).mono (by decide),g0_sz (by decide),g0_sz (by decide),(GSz.int (by decide) (by decide)).mono (by decide)⟩
noncomputable def sOrder2 {m:MQ} (h:MSz 1024 m) (ht:m.t=false) (h0:qQ6 (gsub m.a (gint 1 0))=false) (h1:qQ6 (gmul (gadd m.a m.d) (gadd m.a m.d))=true):Spec Tryz.prog :=
 ⟨149,Tryz.call149,[mV 0 m],mM m,.one (.c (.b (.v (.int .i64 2)))),[],fun β w hh=>by
  obtain ⟨a,b,c,d,t⟩:=m
  cases ht
  have ha:GSz KE (gadd a d):=(h.a.add h.d).mono (by decide)
  exact qQ1 (args:=[mV 0 ⟨a,b,c,d,false⟩]) (obs:=mM ⟨a,b,c,d,false⟩) (evs:=[sStill.e,(sIsA (m:=⟨a,b,c,d,false⟩) (n:=qV1 false) (h.mono (by decide)) zW6 rfl rfl h0).e,(sAdd (h.a.mono (by decide)) (h.d.mono (by decide))).e,mulE ha ha,(qH1 (z:=gmul (gadd a d) (gadd a d)) h1).e]) (Ns:=[(1,4)]) (m:=800) Tryz.func149 hmA (fun β=>by kernel_rfl) (by kernel_rfl) β w hh,by kernel_rfl⟩
noncomputable def sOrd2 {m:MQ} (h:MayQ m) (ht:m.t=false) (h0:qQ6 (gsub m.a (gint 1 0))=false) (h1:qQ6 (gmul (gadd m.a m.d) (gadd m.a m.d))=true):Spec Tryz.prog :=
 Spec.auto Tryz.call28 [.one (.a (mCl m))] [] (.tup [.c (.b (.v (.int .i64 2))),.c (.b (.v (.int .i64 0)))]) []
  [(zQ6 h).e,(sOrder2 (qX3 h.1) ht h0 h1).e] [] 800 Tryz.func28 hmA (by kernel_rfl) (fun β=>by kernel_rfl)
abbrev tF (b:Bool) (s t:ByteArray):SV:=.one (.a [.b (.v (.bool b)),.b (.v (.string s)),.b (.v (.bool false)),.b (.v (.string t))])
theorem whole1:qZ9 1=.agg #[.bool false,.string ⟨#[1]⟩]:=by unfold qZ9; rw [show (1:Int).natAbs=1 from rfl,mag_1]; rfl
def yWOf1:Ev Tryz.prog:=.ret 108 Tryz.call108 #[.int .i64 1] (.agg #[.bool false,.string ⟨#[1]⟩]) (fun w=>by rw [← whole1]; exact rof_any (by decide))
noncomputable def sTxtH:Spec Tryz.prog:=Spec.auto Tryz.call283 [tF true ⟨#[1]⟩ ⟨#[2]⟩] [] (tS ⟨#[45,49,47,50]⟩) []
 [yWOf1,eqEvW false false ⟨#[2]⟩ ⟨#[1]⟩ false (by decide +kernel),sTxtM1.e,sTxt2.e] [(1,4),(3,9)] 800 Tryz.func283 hmA (by kernel_rfl) (fun β=>by kernel_rfl)
abbrev svN0 (k:Int):SV:=.one (.c (.b (.v (.int .i64 k))))
def sSgM:Spec Tryz.prog:=Spec.auto Tryz.call255 [tW true ⟨#[1]⟩] [] (svN0 (-1)) [] [] [] 400 Tryz.func255 hmA (by kernel_rfl) (fun β=>by kernel_rfl)
def sSg0:Spec Tryz.prog:=Spec.auto Tryz.call255 [tW false ⟨#[]⟩] [] (svN0 0) [] [] [] 400 Tryz.func255 hmA (by kernel_rfl) (fun β=>by kernel_rfl)
def sSg3M:Spec Tryz.prog:=Spec.auto Tryz.call114 [tF true ⟨#[1]⟩ ⟨#[2]⟩] [] (svN0 (-1)) [] [sSgM.e] [] 400 Tryz.func114 hmA (by kernel_rfl) (fun β=>by kernel_rfl)
def sSg30:Spec Tryz.prog:=Spec.auto Tryz.call114 [tF false ⟨#[]⟩ ⟨#[1]⟩] [] (svN0 0) [] [sSg0.e] [] 400 Tryz.func114 hmA (by kernel_rfl) (fun β=>by kernel_rfl)
noncomputable def sRealNo:Spec Tryz.prog:=Spec.auto Tryz.call244 [.one (.a [.b (.v (.bool false)),.b (.v (.string ⟨#[]⟩)),.b (.v (.bool false)),.b (.v (.string ⟨#[1]⟩)),.b (.v (.bool true)),.b (.v (.string ⟨#[1]⟩)),.b (.v (.bool false)),.b (.v (.string ⟨#[2]⟩))])] [] (.one (.c (.b (.v (.bool false))))) []
 [sSg3M.e] [] 400 Tryz.func244 hmA (by kernel_rfl) (fun β=>by kernel_rfl)
noncomputable def sTxtG:Spec Tryz.prog:=Spec.auto Tryz.call143 [.one (.a [.b (.v (.bool false)),.b (.v (.string ⟨#[]⟩)),.b (.v (.bool false)),.b (.v (.string ⟨#[1]⟩)),.b (.v (.bool true)),.b (.v (.string ⟨#[1]⟩)),.b (.v (.bool false)),.b (.v (.string ⟨#[2]⟩))])] [] (tS ⟨#[45,49,47,50,105]⟩) []
 [sTxtH.e,sRealNo.e,sSg30.e] [] 800 Tryz.func143 hmA (by kernel_rfl) (fun β=>by kernel_rfl)
theorem num_some:(Tryz.prog.info? 183).isSome=true:=by kernel_rfl
noncomputable def appN:AppT Tryz.prog :=
 ⟨319,183,(Tryz.prog.info? 183).get num_some,.agg #[.pointer none,.pointer none],2,16,Tryz.underlying319,(Option.some_get num_some).symm,by kernel_rfl,by kernel_rfl,by kernel_rfl,rfl,by decide,by decide⟩
structure Gp where
 a:Fr
 b:Fr
def Gp.B (g:Gp):Bool:=g.a.a.B&&g.b.a.B
abbrev tB' (t:Bool):SV:=.one (.c (.b (.v (.bool t))))
abbrev nI' (k:Int):SC:=.c (.b (.v (.int .i64 k)))
abbrev gS (z:GQ):SV:=.one (.a (lsX (gC z)))
noncomputable def mkOkE {m:MQ} (h:FitM m):List (Ev Tryz.prog):=[ofE h.1,.app appN,ofE h.2.1,.app appN,ofE h.2.2.1,.app appN,ofE h.2.2.2,.app appN,(sDet ((qX3 h).mono (by decide))).e]
noncomputable def sToldR {m:MQ} (h:MSz KM m) (h0:Reg m):Spec Tryz.prog:=sToldM h (b:=qQ6 m.c) rfl h0.b0
noncomputable def sMake {m:MQ} (h:FitM m) (h0:qQ6 (mdet m)=false):Spec Tryz.prog :=
 Spec.auto Tryz.call140 [gS m.a,gS m.b,gS m.c,gS m.d,tB' m.t] [] (.tup [.a (lsX (maC (mnorm m))),nI' (maK (mnorm m))]) []
  (mkOkE h++[(qH1 h0).e,(sToldR ((qX3 h).mono (by decide)) (gz_false.1 h0)).e]) [(10,15)] 1200 Tryz.func140 hmA (by kernel_rfl) (fun β=>by kernel_rfl)
end Go.Proofs.YtbepimnlleilfaaGreat.Y
end
section
namespace Go.Proofs.YtbepimnlleilfaaGreat
open Go.Proofs.YtbepimnlleilfaaGreat.Y
def gnat (n:Nat):GQ:=⟨((n:Int):Rat),0⟩
def gpow (z:GQ):Nat→GQ
 | 0=>gnat 1
 | n+1=>gmul (gpow z n) z
instance gqRing:Lean.Grind.CommRing GQ where
 add:=gadd
 mul:=gmul
 natCast:=⟨gnat⟩
 ofNat:=fun n=>⟨gnat n⟩
 nsmul:=⟨fun n z=>gmul (gnat n) z⟩
 npow:=⟨gpow⟩
 neg:=gneg
 sub:=gsub
 intCast:=⟨fun i=>⟨(i:Rat),0⟩⟩
 zsmul:=⟨fun i z=>gmul ⟨(i:Rat),0⟩ z⟩
 add_zero a:=by refine GQ.ext2 ?_ ?_<;>(show _+_=_; first | exact Rat.add_zero _)
 add_comm a b:=GQ.ext2 (Rat.add_comm _ _) (Rat.add_comm _ _)
 add_assoc a b c:=GQ.ext2 (Rat.add_assoc _ _ _) (Rat.add_assoc _ _ _)
 mul_assoc a b c:=by
  refine GQ.ext2 ?_ ?_
  · show (gmul (gmul a b) c).re=(gmul a (gmul b c)).re; simp only [gmul]; grind
  · show (gmul (gmul a b) c).im=(gmul a (gmul b c)).im; simp only [gmul]; grind
 mul_one a:=by
  refine GQ.ext2 ?_ ?_
  · show a.re*((1:Nat):Int)-a.im*0=a.re; grind
  · show a.re*0+a.im*((1:Nat):Int)=a.im; grind
 left_distrib a b c:=by
  refine GQ.ext2 ?_ ?_
  · show (gmul a (gadd b c)).re=(gadd (gmul a b) (gmul a c)).re; simp only [gmul,gadd]; grind
  · show (gmul a (gadd b c)).im=(gadd (gmul a b) (gmul a c)).im; simp only [gmul,gadd]; grind
 zero_mul a:=by
  refine GQ.ext2 ?_ ?_
  · show ((0:Nat):Int)*a.re-0*a.im=((0:Nat):Int); grind
  · show ((0:Nat):Int)*a.im+0*a.re=0; grind
 mul_comm a b:=by
  refine GQ.ext2 ?_ ?_
  · show (gmul a b).re=(gmul b a).re; simp only [gmul]; grind
  · show (gmul a b).im=(gmul b a).im; simp only [gmul]; grind
 one_mul a:=by
  refine GQ.ext2 ?_ ?_
  · show ((1:Nat):Int)*a.re-0*a.im=a.re; grind
  · show ((1:Nat):Int)*a.im+0*a.re=a.im; grind
 right_distrib a b c:=by
  refine GQ.ext2 ?_ ?_
  · show (gmul (gadd a b) c).re=(gadd (gmul a c) (gmul b c)).re; simp only [gmul,gadd]; grind
  · show (gmul (gadd a b) c).im=(gadd (gmul a c) (gmul b c)).im; simp only [gmul,gadd]; grind
 mul_zero a:=by
  refine GQ.ext2 ?_ ?_
  · show a.re*((0:Nat):Int)-a.im*0=((0:Nat):Int); grind
  · show a.re*0+a.im*((0:Nat):Int)=0; grind
 pow_zero a:=rfl
 pow_succ a n:=rfl
 ofNat_succ n:=by
  refine GQ.ext2 ?_ ?_
  · show (((n+1:Nat):Int):Rat)=((n:Int):Rat)+((1:Nat):Int); simp [Rat.intCast_add]
  · show (0:Rat)=0+0; rw [Rat.add_zero]
 neg_add_cancel a:=by
  refine GQ.ext2 ?_ ?_
  · show -a.re+a.re=((0:Nat):Int); grind
  · show -a.im+a.im=0; grind
 sub_eq_add_neg a b:=GQ.ext2 (Rat.sub_eq_add_neg _ _) (Rat.sub_eq_add_neg _ _)
 neg_zsmul i a:=by
  refine GQ.ext2 ?_ ?_
  · show ((-i:Int):Rat)*a.re-0*a.im = -((i:Rat)*a.re-0*a.im); rw [Rat.intCast_neg]; grind
  · show ((-i:Int):Rat)*a.im+0*a.re = -((i:Rat)*a.im+0*a.re); rw [Rat.intCast_neg]; grind
 intCast_neg i:=by
  refine GQ.ext2 ?_ ?_
  · show ((-i:Int):Rat) = -(i:Rat); exact Rat.intCast_neg i
  · show (0:Rat) = -0; rfl
theorem gmul_def (z w:GQ):gmul z w=z*w:=rfl
theorem gsub_def (z w:GQ):gsub z w=z-w:=rfl
theorem g0_def:g0=0:=GQ.ext2 rfl rfl
theorem g1_def:gint 1 0=1:=gint10.trans (GQ.ext2 rfl rfl)
theorem gi0_def:gint 0 0=0:=gint00.trans g0_def
theorem qJ7 (t:Bool) (z w:GQ):mcj t (z*w)=mcj t z*mcj t w:=by
 cases t
 · rfl
 · show qW6 (gmul z w)=gmul (qW6 z) (qW6 w)
   refine GQ.ext2 ?_ ?_<;>(simp only [qW6,gmul]; grind)
theorem mcj_sub (t:Bool) (z w:GQ):mcj t (z-w)=mcj t z-mcj t w:=by
 cases t
 · rfl
 · show qW6 (gsub z w)=gsub (qW6 z) (qW6 w)
   refine GQ.ext2 ?_ ?_<;>(simp only [qW6,gsub]; try grind)
theorem mcj_one (t:Bool):mcj t 1=1:=by
 cases t
 · rfl
 · show qW6 1=1
   exact GQ.ext2 rfl (by show -(0:Rat)=0; grind)
theorem mcj_zero (t:Bool):mcj t 0=0:=by
 cases t
 · rfl
 · show qW6 0=0
   exact GQ.ext2 rfl (by show -(0:Rat)=0; grind)
theorem mcj_ne (t:Bool) {z:GQ} (h:z≠0):mcj t z≠0:=by
 cases t
 · exact h
 · rw [← g0_def] at h ⊢; exact gconj_ne h
theorem mul0 {z w:GQ} (h:z*w=0):z=0∨w=0:=by
 rw [← g0_def] at h ⊢; exact gmul_zero h
theorem qW0 {z w:GQ} (h:z≠0) (k:w≠0):z*w≠0:=fun e=>(mul0 e).elim h k
theorem mulc {z w u:GQ} (h:u≠0) (e:u*z=u*w):z=w:=by
 have:u*(z-w)=0:=by grind
 rcases mul0 this with k | k
 · exact absurd k h
 · grind
theorem gdef (p q:Pt):qZ1 p q=byA p*byB q-byB p*byA q:=rfl
theorem across_map (m:MQ) (p q:Pt):msN m p*msD m q-msD m p*msN m q=mdet m*mcj m.t (qZ1 p q):=by
 have hd:mdet m=m.a*m.d-m.b*m.c:=rfl
 have e:∀ z,msN m (.fin z)=m.a*mcj m.t z+m.b:=fun _=>rfl
 have e':∀ z,msD m (.fin z)=m.c*mcj m.t z+m.d:=fun _=>rfl
 have i:msN m .inf=m.a:=rfl
 have i':msD m .inf=m.c:=rfl
 rw [gdef,mcj_sub,qJ7,qJ7,hd]
 cases p<;>cases q<;>simp only [e,e',i,i',byA,byB,g1_def,gi0_def,mcj_one,mcj_zero]<;>grind
theorem across0 {p q:Pt}:qZ1 p q=0↔p=q:=by
 constructor
 · intro h
   apply Classical.byContradiction
   intro hn
   exact across_ne hn (h.trans g0_def.symm)
 · rintro rfl
   rw [gdef]; grind
def zV7 (m:MQ) (p:Pt):Pt:=msend m p (qQ6 (msD m p))
theorem gz0 {z:GQ}:qQ6 z=true↔z=0:=by rw [gz_true,g0_def]
theorem zV2 {m:MQ} (h:Reg m) (p:Pt):∃ μ:GQ,μ≠0∧msN m p=μ*byA (zV7 m p)∧msD m p=μ*byB (zV7 m p):=by
 have hdet:mdet m≠0:=fun e=>h (e.trans g0_def.symm)
 unfold zV7
 cases hb:qQ6 (msD m p) with
 | false =>
  have hD:msD m p≠g0:=gz_false.1 hb
  refine ⟨msD m p,fun e=>hD (e.trans g0_def.symm),?_,?_⟩
  · have:=zK0 (z:=msN m p) hD
    rw [gmul_def] at this
    show msN m p=msD m p*gdiv (msN m p) (msD m p)
    grind
  · show msD m p=msD m p*gint 1 0
    rw [g1_def]; grind
 | true =>
  have hD:msD m p=0:=gz0.1 hb
  refine ⟨msN m p,fun e=>?_,?_,?_⟩
  · have key:∀ q,p≠q→False:=fun q hq=>by
     have h1:=across_map m p q
     rw [hD,e] at h1
     have h2:mdet m*mcj m.t (qZ1 p q)=0:=by grind
     exact qW0 hdet (mcj_ne _ fun e=>hq (across0.1 e)) h2
    cases p with
    | inf=>exact key (.fin g0) (fun e=>by cases e)
    | fin z=>exact key .inf (fun e=>by cases e)
  · show msN m p=msN m p*gint 1 0
    rw [g1_def]; grind
  · show msD m p=msN m p*gint 0 0
    rw [gi0_def,hD]; grind
theorem gz_eq {z w:GQ} (h:z=0↔w=0):qQ6 z=qQ6 w:=by
 rw [Bool.eq_iff_iff,gz0,gz0]; exact h
theorem gdv_eq {z w u:GQ} (h:w≠0):gdiv z w=u↔z=u*w:=zX0 (fun e=>h (e.trans g0_def))
theorem across_scale {m:MQ} {p q:Pt} {a b:GQ} {P Q:Pt} (h1:msN m p=a*byA P) (h2:msD m p=a*byB P) (h3:msN m q=b*byA Q) (h4:msD m q=b*byB Q):a*b*qZ1 P Q=mdet m*mcj m.t (qZ1 p q):=by
 rw [← across_map,gdef,h1,h2,h3,h4]
 grind
theorem send_inj {m:MQ} (h:Reg m) {p q:Pt} (e:zV7 m p=zV7 m q):p=q:=by
 have hdet:mdet m≠0:=fun e=>h (e.trans g0_def.symm)
 obtain ⟨a,a0,a1,a2⟩:=zV2 h p
 obtain ⟨b,b0,b1,b2⟩:=zV2 h q
 have e1:=across_scale a1 a2 b1 b2
 rw [across0.2 e] at e1
 have:mdet m*mcj m.t (qZ1 p q)=0:=by grind
 exact across0.1 (Classical.byContradiction fun hn=>qW0 hdet (mcj_ne _ hn) this)
end Go.Proofs.YtbepimnlleilfaaGreat
end
