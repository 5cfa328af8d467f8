/- TxS, TxG, SoA, EqT, SpK, MpT, MpA, SoB, SoW, SoT, Open, OpnB, OpnP. -/
import Derived.ChangeKeysEq
import Derived.MapKept
import Derived.ProofKit
import Derived.OpenShut
import Derived.ShutString
import Derived.ChangeOld
import Derived.Below
import Derived.Test.YtdiemgedlfnlmaaGreatTk11
set_option linter.unnecessarySimpa false
set_option linter.unusedVariables false
set_option linter.unusedSimpArgs false
section
namespace Go.Proofs.YtdiemgedlfnlmaaGreat.Y
open Go Go.RowKit
set_option maxRecDepth 100000
abbrev txS (s:ByteArray):SV:=.one (.c (.b (.v (.string s))))
abbrev txW (n:Int):SV:=.one (.a [.b (.v (.bool (decide (n<0)))),.b (.v (.string (mag n.natAbs)))])
def sR2Text {n:Int} (h:(mag n.natAbs).size≤16384):Spec Tryz.prog :=
 ⟨356,Tryz.call356,[txW n],[],txS (textN n),[],fun β w _=>by
  refine (rText_any (decide (n<0)) (mag n.natAbs) n rfl rfl h).mono fun e w' ⟨he,hb⟩=>⟨[],(fun _ h=>by cases h),he,trivial,hb⟩,by kernel_rfl⟩
def sR2TextD {k:Nat} (h:(mag k).size≤16384):Spec Tryz.prog :=
 (sR2Text (n:=(k:Int)) (by rw [Int.natAbs_natCast]; exact h)).as [.one (.a [.b (.v (.bool false)),.b (.v (.string (mag k)))])] (txS (textN k)) (by
  show [txW (k:Int)]=_
  unfold txW
  rw [Int.natAbs_natCast,show decide ((k:Int)<0)=false from decide_eq_false (by omega)]) rfl
theorem tx_den1 {x:Rat} {b:Bool} (h:decide (x.den=1)=b):weq false false (mag x.den) ⟨#[1]⟩=b:=by
 rw [← h,Bool.eq_iff_iff,weq_iff,decide_eq_true_iff,show (⟨#[1]⟩:ByteArray)=mag 1 from mag_1.symm]
 exact ⟨fun e=>mag_inj e.2,fun e=>⟨rfl,by rw [e]⟩⟩
def eOf1:Ev Tryz.prog:=.ret 125 Tryz.call125 #[.int .i64 1] (.agg #[.bool false,.string ⟨#[1]⟩]) (fun w=>by rw [show Value.agg #[.bool false,.string ⟨#[1]⟩]=wholeV 1 by unfold wholeV; rw [show (1:Int).natAbs=1 from rfl,mag_1]; rfl]; exact rof_any (by decide))
theorem tx_cat {a b:ByteArray} (h:a.size+b.size≤4194304) {u:TypeId} (x y:Operand) (ρ:Operand→Value) (o:Oper) (w:World) (ho:o.op=.binOp .add 9 x y u) (hx:(Op.binOp .add 9 x y u).operands.toList.map ρ=[.string a,.string b]):(execOp ρ o).run Tryz.prog w=.ok (.value (.string (a++b))) w:=by
 have h3:ρ x=.string a∧ρ y=.string b:=by simpa [Op.operands] using hx
 unfold execOp
 rw [ho]
 dsimp only
 rw [h3.1,h3.2]
 have h4:=run_string_add (P:=Tryz.prog) (w:=w) a b (by omega) (by omega)
 simp [go_sem,binOp,h4]
def eCat (a b:ByteArray) (h:a.size+b.size≤4194304):Ev Tryz.prog:=.dyn (fun o _ _=>match o.op with
 | .binOp .add t _ _ _=>Nat.beq t 9
 | _=>false) fun o _ _=>match o.op with
 | .binOp .add _ x y u=>.gen (o.dst.getD 0) (.binOp .add 9 x y u) [.string a,.string b] (.string (a++b)) (fun ρ o w ho hx=>tx_cat h x y ρ o w ho hx)
 | _=>.cut
theorem tx_eq {a b:ByteArray} {r:Bool} (h:decide (a=b)=r) {u:TypeId} (x y:Operand) (ρ:Operand→Value) (o:Oper) (w:World) (ho:o.op=.binOp .eql 9 x y u) (hx:(Op.binOp .eql 9 x y u).operands.toList.map ρ=[.string a,.string b]):(execOp ρ o).run Tryz.prog w=.ok (.value (.bool r)) w:=by
 have h3:ρ x=.string a∧ρ y=.string b:=by simpa [Op.operands] using hx
 unfold execOp
 rw [ho]
 dsimp only
 rw [h3.1,h3.2,← h]
 simp [go_sem,binOp,Op.stringOp]
 rw [Bool.eq_iff_iff,beq_iff_eq,decide_eq_true_iff,toList_inj]
def eStrEq (a b:ByteArray) {r:Bool} (h:decide (a=b)=r):Ev Tryz.prog:=.dyn (fun o _ _=>match o.op with
 | .binOp .eql t _ _ _=>Nat.beq t 9
 | _=>false) fun o _ _=>match o.op with
 | .binOp .eql _ x y u=>.gen (o.dst.getD 0) (.binOp .eql 9 x y u) [.string a,.string b] (.bool r) (fun ρ o w ho hx=>tx_eq h x y ρ o w ho hx)
 | _=>.cut
theorem tx_a {a b:ByteArray} {i j:Nat} (h:a.size≤i) (k:b.size≤j) (hs:i+j≤4194304:=by decide):a.size+b.size≤4194304:=by omega
theorem tx_b {a b:ByteArray} {i j:Nat} (h:a.size≤i) (k:b.size≤j):(a++b).size≤i+j:=by rw [ByteArray.size_append]; omega
def sR3Text {x:Rat} (hx:Fit x):Spec Tryz.prog :=
 ⟨295,Tryz.call295,[.one (.a (fC x))],[],txS (textQ x),[],fun β w hh=>by
  have h1:(mag x.num.natAbs).size≤16384:=Nat.le_trans hx.1 (by decide)
  have h2:(mag x.den).size≤16384:=Nat.le_trans hx.2 (by decide)
  cases hd:decide (x.den=1) with
  | true =>
   rw [show textQ x=textN x.num by unfold textQ; rw [if_pos (of_decide_eq_true hd)]]
   exact spec_auto (args:=[.one (.a (fC x))]) (obs:=[]) (evs:=[eOf1,eqEvW _ _ _ _ true (tx_den1 hd),(sR2Text h1).e]) (Ns:=[(1,4),(3,9)]) (m:=400) Tryz.func295 hmA (fun β=>by kernel_rfl) (by kernel_rfl) β w hh
  | false =>
   rw [show textQ x=textN x.num++⟨#[47]⟩++textN (x.den:Int) by
    unfold textQ
    rw [if_neg (of_decide_eq_false hd),ByteArray.append_assoc]]
   exact spec_auto (args:=[.one (.a (fC x))]) (obs:=[]) (evs:=[eOf1,eqEvW _ _ _ _ false (tx_den1 hd),(sR2Text h1).e,eCat (textN x.num) ⟨#[47]⟩ (tx_a (textN_small h1) (j:=1) (by decide)),(sR2TextD h2).e,eCat (textN x.num++⟨#[47]⟩) (textN x.den) (tx_a (tx_b (textN_small h1) (j:=1) (by decide)) (textN_small (n:=(x.den:Int)) (by rw [Int.natAbs_natCast]; exact h2)))]) (Ns:=[(1,4),(3,9)]) (m:=400) Tryz.func295 hmA (fun β=>by kernel_rfl) (by kernel_rfl) β w hh,by kernel_rfl⟩
abbrev tcI:ByteArray:=⟨#[105]⟩
abbrev tcP:ByteArray:=⟨#[43]⟩
abbrev tc0:ByteArray:=⟨#[48]⟩
theorem txt_pos (n:Int):1≤(txt n).length:=by
 unfold txt
 split
 · simp
 · rename_i h
   rw [List.length_reverse,List.length_append,dd_pos n.natAbs (by omega),List.length_cons]
   omega
theorem strN_one {a b:Nat} (ha:a<256) (hb:b<256) (h:strN [a]=strN [b]):a=b:=by
 unfold strN at h
 have h1:=congrArg (fun s:ByteArray=>s.data.toList) h
 simp only [List.map_cons,List.map_nil,List.cons.injEq,and_true] at h1
 have h2:=congrArg UInt8.toNat h1
 simpa [Nat.mod_eq_of_lt ha,Nat.mod_eq_of_lt hb] using h2
theorem textN_zero (n:Int):textN n=tc0↔n=0:=by
 constructor
 · intro h
   refine Classical.byContradiction fun h0=>?_
   have hl:(txt n).length=1:=by
    have:=congrArg ByteArray.size h
    rw [textN_size] at this
    exact this
   have hp:0<n.natAbs:=by omega
   have e:txt n=(dd n.natAbs++if n<0 then [45] else []).reverse:=by unfold txt; rw [if_neg h0]
   rw [e,List.length_reverse,List.length_append,dd_pos _ hp,List.length_cons] at hl
   have h1:dd (n.natAbs/10)=[]:=List.eq_nil_of_length_eq_zero (by omega)
   have h2:(if n<0 then [45] else []:List Nat)=[]:=List.eq_nil_of_length_eq_zero (by omega)
   have h3:=(dd_nil_iff _).1 h1
   rw [h2,dd_pos _ hp,h1,List.append_nil] at e
   have h4:strN [48+n.natAbs % 10]=strN [48]:=by
    unfold textN at h
    rw [e] at h
    exact h
   have:=strN_one (by omega) (by omega) h4
   omega
 · rintro rfl
   rfl
theorem textQ_zero (x:Rat):textQ x=tc0↔x=0:=by
 constructor
 · intro h
   unfold textQ at h
   split at h
   · exact Rat.num_eq_zero.1 ((textN_zero _).1 h)
   · have:=congrArg ByteArray.size h
     rw [ByteArray.size_append,ByteArray.size_append,textN_size,textN_size] at this
     have h1:=txt_pos x.num
     have h2:=txt_pos (x.den:Int)
     have h3:(⟨#[47]⟩:ByteArray).size=1:=rfl
     have h4:tc0.size=1:=rfl
     omega
 · rintro rfl
   rfl
theorem textQ_dec {x:Rat} {b:Bool} (h:decide (x=0)=b):decide (textQ x=tc0)=b:=by
 rw [← h,Bool.eq_iff_iff,decide_eq_true_iff,decide_eq_true_iff,textQ_zero]
theorem textQ_small {x:Rat} (h:Fit x):(textQ x).size≤400001:=by
 have h1:=textN_small (n:=x.num) (Nat.le_trans h.1 (by decide))
 have h2:=textN_small (n:=(x.den:Int)) (by rw [Int.natAbs_natCast]; exact Nat.le_trans h.2 (by decide))
 unfold textQ
 split
 · omega
 · rw [ByteArray.size_append,ByteArray.size_append]
   have h3:(⟨#[47]⟩:ByteArray).size=1:=rfl
   omega
def textGb (z:GQ) (a b c:Bool):ByteArray:=bif a then textQ z.re else bif b then textQ z.im++tcI else bif c then textQ z.re++textQ z.im++tcI else textQ z.re++tcP++textQ z.im++tcI
def textG (z:GQ):ByteArray:=textGb z (decide (z.im=0)) (decide (z.re=0)) (decide (z.im.num<0))
section
variable {z:GQ} (hz:FitG z) {a b c:Bool} (ha:decide (z.im=0)=a) (hb:decide (z.re=0)=b) (hc:decide (z.im.num<0)=c)
theorem tg_lt {c:Bool} (hc:decide (z.im.num<0)=c):Value.bool (decide (z.im.num<0))=.bool c:=by rw [hc]
theorem tg_gt {c:Bool} (ha:decide (z.im=0)=false) (hc:decide (z.im.num<0)=c):Value.bool (decide (0<z.im.num.sign))=.bool (!c):=by
 have h0:z.im.num≠0:=fun e=>of_decide_eq_false ha (Rat.num_eq_zero.1 e)
 cases c with
 | true =>
  have:=of_decide_eq_true hc
  rw [Int.sign_eq_neg_one_of_neg this]
  rfl
 | false =>
  have:=of_decide_eq_false hc
  rw [Int.sign_eq_one_of_pos (by omega)]
  rfl
noncomputable def tgE1:List (Ev Tryz.prog):=[(sGM (gpX z hz) (r:=true) rfl).e,(sFText hz.1 rfl).e,(sFText hz.2 rfl).e,eStrEq (textQ z.im) tc0 (textQ_dec ha)]
noncomputable def sGText:Spec Tryz.prog :=
 ⟨174,Tryz.call174,[gS z],[],.tup [.c (.b (.v (.string (textG z)))),nI' 0],[],fun β w hh=>by
  have s1:=textQ_small hz.1
  have s2:=textQ_small hz.2
  unfold textG
  cases ha:decide (z.im=0) with
  | true=>exact spec_auto (args:=[gS z]) (obs:=[]) (evs:=tgE1 hz ha) (Ns:=[]) (m:=400) Tryz.func174 hmA (fun β=>by kernel_rfl) (by kernel_rfl) β w hh
  | false=>cases hb:decide (z.re=0) with
   | true=>exact spec_auto (args:=[gS z]) (obs:=[]) (evs:=tgE1 hz ha++[eStrEq (textQ z.re) tc0 (textQ_dec hb),eCat (textQ z.im) tcI (tx_a s2 (j:=1) (by decide))]) (Ns:=[]) (m:=400) Tryz.func174 hmA (fun β=>by kernel_rfl) (by kernel_rfl) β w hh
   | false=>cases hc:decide (z.im.num<0) with
    | true=>exact spec_auto (args:=[gS z]) (obs:=[]) (evs:=tgE1 hz ha++[eStrEq (textQ z.re) tc0 (textQ_dec hb),.eqv 36 (.bool (decide (z.im.num<0))) (.bool true) (tg_lt hc),eCat (textQ z.re) (textQ z.im) (tx_a s1 s2),eCat (textQ z.re++textQ z.im) tcI (tx_a (tx_b s1 s2) (j:=1) (by decide))]) (Ns:=[]) (m:=400) Tryz.func174 hmA (fun β=>by kernel_rfl) (by kernel_rfl) β w hh
    | false=>exact spec_auto (args:=[gS z]) (obs:=[]) (evs:=tgE1 hz ha++[eStrEq (textQ z.re) tc0 (textQ_dec hb),.eqv 36 (.bool (decide (z.im.num<0))) (.bool false) (tg_lt hc),eCat (textQ z.re) tcP (tx_a s1 (j:=1) (by decide)),eCat (textQ z.re++tcP) (textQ z.im) (tx_a (tx_b s1 (j:=1) (by decide)) s2),eCat (textQ z.re++tcP++textQ z.im) tcI (tx_a (tx_b (tx_b s1 (j:=1) (by decide)) s2) (j:=1) (by decide))]) (Ns:=[]) (m:=400) Tryz.func174 hmA (fun β=>by kernel_rfl) (by kernel_rfl) β w hh,by kernel_rfl⟩
noncomputable def tgE2:List (Ev Tryz.prog):=[(sR3Text hz.2).e,eCat (textQ z.im) tcI (tx_a (textQ_small hz.2) (j:=1) (by decide)),(sR4Real z ha).e]
noncomputable def sR4Text:Spec Tryz.prog :=
 ⟨181,Tryz.call181,[gS z],[],txS (textG z),[],fun β w hh=>by
  have s1:=textQ_small hz.1
  have s2:=textQ_small hz.2
  have s2i:(textQ z.im++tcI).size≤400002:=tx_b s2 (j:=1) (by decide)
  unfold textG
  cases ha:decide (z.im=0) with
  | true=>exact spec_auto (args:=[gS z]) (obs:=[]) (evs:=tgE2 hz ha++[(sR3Text hz.1).e]) (Ns:=[]) (m:=400) Tryz.func181 hmA (fun β=>by kernel_rfl) (by kernel_rfl) β w hh
  | false=>cases hb:decide (z.re=0) with
   | true=>exact spec_auto (args:=[gS z]) (obs:=[]) (evs:=tgE2 hz ha++[(sR3Sign (x:=z.re) rfl).e,.eqv 18 (.bool (z.re.num.sign==0)) (.bool true) (sign_lit hb)]) (Ns:=[]) (m:=400) Tryz.func181 hmA (fun β=>by kernel_rfl) (by kernel_rfl) β w hh
   | false=>cases hc:decide (z.im.num<0) with
    | true =>
     rw [show textGb z false false true=textQ z.re++(textQ z.im++tcI) by show textQ z.re++textQ z.im++tcI=_; rw [ByteArray.append_assoc]]
     exact spec_auto (args:=[gS z]) (obs:=[]) (evs:=tgE2 hz ha++[(sR3Sign (x:=z.re) rfl).e,.eqv 18 (.bool (z.re.num.sign==0)) (.bool false) (sign_lit hb),(sR3Sign (x:=z.im) rfl).e,.eqv 24 (.bool (decide (0<z.im.num.sign))) (.bool false) (tg_gt ha hc),(sR3Text hz.1).e,eCat (textQ z.re) (textQ z.im++tcI) (tx_a s1 s2i)]) (Ns:=[]) (m:=400) Tryz.func181 hmA (fun β=>by kernel_rfl) (by kernel_rfl) β w hh
    | false =>
     rw [show textGb z false false false=textQ z.re++tcP++(textQ z.im++tcI) by show textQ z.re++tcP++textQ z.im++tcI=_; rw [ByteArray.append_assoc]]
     exact spec_auto (args:=[gS z]) (obs:=[]) (evs:=tgE2 hz ha++[(sR3Sign (x:=z.re) rfl).e,.eqv 18 (.bool (z.re.num.sign==0)) (.bool false) (sign_lit hb),(sR3Sign (x:=z.im) rfl).e,.eqv 24 (.bool (decide (0<z.im.num.sign))) (.bool true) (tg_gt ha hc),(sR3Text hz.1).e,eCat (textQ z.re) tcP (tx_a s1 (j:=1) (by decide)),eCat (textQ z.re++tcP) (textQ z.im++tcI) (tx_a (tx_b s1 (j:=1) (by decide)) s2i)]) (Ns:=[]) (m:=400) Tryz.func181 hmA (fun β=>by kernel_rfl) (by kernel_rfl) β w hh,by kernel_rfl⟩
end
def soNeg:Pt→Pt
 | .inf=>.inf
 | .fin z=>.fin (gneg z)
def soConj:Pt→Pt
 | .inf=>.inf
 | .fin z=>.fin (gconj z)
def soInv (p:Pt) (f:Bool):Pt:=pratio (byB p) (byA p) f
def sR7Neg (p:Pt):Spec Tryz.prog :=
 ⟨41,Tryz.call41,[svP p],[],svP (soNeg p),[],fun β w hh=>by
  cases p
  · exact spec_auto (args:=[svP .inf]) (obs:=[]) (evs:=[]) (Ns:=[]) (m:=400) Tryz.func41 hmA (fun β=>by kernel_rfl) (by kernel_rfl) β w hh
  · rename_i z
    exact spec_auto (args:=[svP (.fin z)]) (obs:=[]) (evs:=[(sR4Neg z).e,(sR7Of (gneg z)).e]) (Ns:=[]) (m:=400) Tryz.func41 hmA (fun β=>by kernel_rfl) (by kernel_rfl) β w hh,by kernel_rfl⟩
def sR7Cj (p:Pt):Spec Tryz.prog :=
 ⟨42,Tryz.call42,[svP p],[],svP (soConj p),[],fun β w hh=>by
  cases p
  · exact spec_auto (args:=[svP .inf]) (obs:=[]) (evs:=[]) (Ns:=[]) (m:=400) Tryz.func42 hmA (fun β=>by kernel_rfl) (by kernel_rfl) β w hh
  · rename_i z
    exact spec_auto (args:=[svP (.fin z)]) (obs:=[]) (evs:=[(sR4Conj z).e,(sR7Of (gconj z)).e]) (Ns:=[]) (m:=400) Tryz.func42 hmA (fun β=>by kernel_rfl) (by kernel_rfl) β w hh,by kernel_rfl⟩
def sR7Inv {p:Pt} (hp:PSz 1024 p) {f:Bool} (hf:gzero (byA p)=f):Spec Tryz.prog :=
 Spec.auto Tryz.call43 [svP p] [] (svP (soInv p f)) [] [(sR7By p).e,(sR7Ratio (x:=byB p) (y:=byA p) ((byB1 p).mono (by decide)) ((byA_sz hp (by decide)).mono (by decide)) hf).e] [] 400 Tryz.func43 hmA (by kernel_rfl) (fun β=>by kernel_rfl)
theorem soConj_sz {p:Pt} (hp:PSz 1024 p):PSz 1024 (soConj p):=by
 cases p
 · trivial
 · exact GSz.conj hp
def sR7Acr {p:Pt} (hp:PSz 1024 p) {f:Bool} (hf:gzero (byA (soConj p))=f):Spec Tryz.prog :=
 Spec.auto Tryz.call44 [svP p] [] (svP (soNeg (soInv (soConj p) f))) [] [(sR7Cj p).e,(sR7Inv (soConj_sz hp) hf).e,(sR7Neg (soInv (soConj p) f)).e] [] 400 Tryz.func44 hmA (by kernel_rfl) (fun β=>by kernel_rfl)
abbrev so2:Rat:=Rat.divInt 2 1
def soL1 (z:GQ):Rat:=so2*z.re/rwQ z
def soL2 (z:GQ):Rat:=so2*z.im/rwQ z
def soL3 (z:GQ):Rat:=(rwQ z-so2)/rwQ z
theorem so2_sz:Sz 1 so2:=Sz.small (n:=2) (by decide)
section
variable {z:GQ} (hz:GSz 1024 z)
noncomputable def sR7LiftF:Spec Tryz.prog :=
 Spec.auto Tryz.call45 [svP (.fin z)] [] (.one (.a (fC (soL1 z)++fC (soL2 z)++fC (soL3 z)))) []
  [(sR7Weight hz).e,(sR3Int 2 (by decide)).e,(sR3Times (so2_sz.mono (by decide)) (hz.1.mono (by decide))).e,(sR3Over ((so2_sz.mul hz.1).mono (by decide)) ((rwQ_sz hz).mono (by decide)) (rw_ne z)).e,
   (sR3Times (so2_sz.mono (by decide)) (hz.2.mono (by decide))).e,(sR3Over ((so2_sz.mul hz.2).mono (by decide)) ((rwQ_sz hz).mono (by decide)) (rw_ne z)).e,
   (sR3Minus ((rwQ_sz hz).mono (by decide)) (so2_sz.mono (by decide))).e,(sR3Over (((rwQ_sz hz).sub so2_sz).mono (by decide)) ((rwQ_sz hz).mono (by decide)) (rw_ne z)).e] [(5,8),(6,8),(7,6)] 800 Tryz.func45 hmA (by kernel_rfl) (fun β=>by kernel_rfl)
noncomputable def sR7LiftI:Spec Tryz.prog :=
 Spec.auto Tryz.call45 [svP .inf] [] (.one (.a (fC (Rat.divInt 0 1)++fC (Rat.divInt 0 1)++fC (Rat.divInt 1 1)))) [] [(sR3Int 0 (by decide)).e,(sR3Int 0 (by decide)).e,(sR3Int 1 (by decide)).e] [] 800 Tryz.func45 hmA (by kernel_rfl) (fun β=>by kernel_rfl)
end
abbrev tcInf:ByteArray:=⟨#[105,110,102]⟩
def textP:Pt→ByteArray
 | .inf=>tcInf
 | .fin z=>textG z
noncomputable def sR7Text {p:Pt} (hp:FitP p):Spec Tryz.prog :=
 ⟨46,Tryz.call46,[svP p],[],txS (textP p),[],fun β w hh=>by
  cases p
  · exact spec_auto (args:=[svP .inf]) (obs:=[]) (evs:=[]) (Ns:=[]) (m:=400) Tryz.func46 hmA (fun β=>by kernel_rfl) (by kernel_rfl) β w hh
  · exact spec_auto (args:=[svP (.fin _)]) (obs:=[]) (evs:=[(sR4Text hp).e]) (Ns:=[]) (m:=400) Tryz.func46 hmA (fun β=>by kernel_rfl) (by kernel_rfl) β w hh,by kernel_rfl⟩
def soMay (p:Pp) {b:Bool} (hb:p.B=b):Spec Tryz.prog :=
 (sPMay p).as [svR p.rI p.rX p.rY] (tB' b) (congrArg (fun l=>[SV.one (.a l)]) (Pp.C_raw p)) (congrArg tB' hb)
def soMayP (p:Pt) (h:FitP p):Spec Tryz.prog :=
 (sPMay (ppt p h)).as [svP p] (tB' true) (congrArg (fun l=>[SV.one (.a l)]) (ppt_C p h)) (congrArg tB' (ppt_B p h))
noncomputable def soText {p:Pt} (hp:FitP p):Spec Tryz.prog :=
 ⟨35,Tryz.call35,[svP p],[],.tup [.c (.b (.v (.string (textP p)))),nI' 0],[],fun β w hh=>by
  cases p
  · exact spec_auto (args:=[svP .inf]) (obs:=[]) (evs:=[(soMayP .inf hp).e]) (Ns:=[]) (m:=400) Tryz.func35 hmA (fun β=>by kernel_rfl) (by kernel_rfl) β w hh
  · exact spec_auto (args:=[svP (.fin _)]) (obs:=[]) (evs:=[(soMayP (.fin _) hp).e,(sGText hp).e]) (Ns:=[]) (m:=400) Tryz.func35 hmA (fun β=>by kernel_rfl) (by kernel_rfl) β w hh,by kernel_rfl⟩
section
variable (p:Pp) (hp:p.B=false)
abbrev soN:SV:=.tup [pt0,nI' 2]
noncomputable def soTextNo:Spec Tryz.prog :=
 Spec.auto Tryz.call35 [svR p.rI p.rX p.rY] [] (.tup [.c (.b (.v (.string ⟨#[]⟩))),nI' 2]) [] [(soMay p hp).e] [] 400 Tryz.func35 hmA (by kernel_rfl) (fun β=>by kernel_rfl)
noncomputable def soMvNo (g:FuncId):Spec Tryz.prog :=
 Spec.auto Tryz.call158 [.one (.a (lsX p.w.C)),fvV g] [] soN [] [(sSpotW p hp).e] [] 800 Tryz.func158 hmA (by kernel_rfl) (fun β=>by kernel_rfl)
noncomputable def soNegNo:Spec Tryz.prog:=Spec.auto Tryz.call30 [.one (.a (lsX p.w.C))] [] soN [] [(soMvNo p hp 159).e] [] 400 Tryz.func30 hmA (by kernel_rfl) (fun β=>by kernel_rfl)
noncomputable def soConjNo:Spec Tryz.prog:=Spec.auto Tryz.call31 [.one (.a (lsX p.w.C))] [] soN [] [(soMvNo p hp 161).e] [] 400 Tryz.func31 hmA (by kernel_rfl) (fun β=>by kernel_rfl)
noncomputable def soInvNo:Spec Tryz.prog:=Spec.auto Tryz.call32 [.one (.a (lsX p.w.C))] [] soN [] [(soMvNo p hp 163).e] [] 400 Tryz.func32 hmA (by kernel_rfl) (fun β=>by kernel_rfl)
noncomputable def soAcrNo:Spec Tryz.prog:=Spec.auto Tryz.call33 [.one (.a (lsX p.w.C))] [] soN [] [(soMvNo p hp 164).e] [] 400 Tryz.func33 hmA (by kernel_rfl) (fun β=>by kernel_rfl)
def soZ3:SC:=.a (rL r40++rL r40++rL r40)
noncomputable def soLiftNo:Spec Tryz.prog:=Spec.auto Tryz.call34 [.one (.a (lsX p.w.C))] [] (.tup [soZ3,nI' 2]) [] [(sSpotW p hp).e] [] 800 Tryz.func34 hmA (by kernel_rfl) (fun β=>by kernel_rfl)
end
end Go.Proofs.YtdiemgedlfnlmaaGreat.Y
end
section
namespace Go.Proofs.YtdiemgedlfnlmaaGreat
open Go.Proofs.YtdiemgedlfnlmaaGreat.Y
open Go Go.RowKit
set_option maxRecDepth 100000
theorem run_eqI_cons {P:Program} {w:World} {d:Nat} {e:TypeId} {c:Nat} {xs ys:Array Value} {i:Nat} {is:List Nat} {a b:Value} {r s:Bool} (ha:(part e xs (i*c)).run P w=.ok a w) (hb:(part e ys (i*c)).run P w=.ok b w)
  (hr:(Op.equalIn d e a b).run P w=.ok r w) (hs:(Op.eqItems d e c xs ys is).run P w=.ok s w):(Op.eqItems d e c xs ys (i::is)).run P w=.ok (r&&s) w:=by
 unfold Op.eqItems
 simp only [Sem.run_bind,ha,hb,hr,Result.andThen_ok]
 cases r
 · rfl
 · simpa using hs
abbrev fr3A (x y z:R4):Array Value:=#[.bool x.b,.string x.s,.bool x.c,.string x.t,.bool y.b,.string y.s,.bool y.c,.string y.t,.bool z.b,.string z.s,.bool z.c,.string z.t]
abbrev fr1A (x:R4):Value:=.agg #[.bool x.b,.string x.s,.bool x.c,.string x.t]
theorem eqF3 {w:World} (d:Nat) (x y z x' y' z':R4):(Op.equalIn (d+4) 52 (.agg (fr3A x y z)) (.agg (fr3A x' y' z'))).run Tryz.prog w=.ok (x.eq x'&&(y.eq y'&&(z.eq z'&&true))) w:=by
 obtain ⟨i,hi⟩:∃ i,Tryz.prog.info? 25=some i:=Option.isSome_iff_exists.1 (by kernel_rfl)
 rw [run_equalIn_array (P:=Tryz.prog) (w:=w) (d:=d+3) (n:=3) (xs:=fr3A x y z) (ys:=fr3A x' y' z') (hu:=by kernel_rfl) (hi:=hi),show List.range 3=[0,1,2] from rfl]
 refine run_eqI_cons (a:=fr1A x) (b:=fr1A x') (by kernel_rfl) (by kernel_rfl) (eqF d _ _ _ _ _ _ _ _) ?_
 refine run_eqI_cons (a:=fr1A y) (b:=fr1A y') (by kernel_rfl) (by kernel_rfl) (eqF d _ _ _ _ _ _ _ _) ?_
 refine run_eqI_cons (a:=fr1A z) (b:=fr1A z') (by kernel_rfl) (by kernel_rfl) (eqF d _ _ _ _ _ _ _ _) ?_
 rfl
def eqEvF3 (x y z x' y' z':R4) (r:Bool) (h:(x.eq x'&&(y.eq y'&&(z.eq z'&&true)))=r):Ev Tryz.prog :=
 eqEv 52 (fr3A x y z) (fr3A x' y' z') r (by kernel_rfl) (fun w=>by rw [← h]; exact eqF3 9996 ..)
end Go.Proofs.YtdiemgedlfnlmaaGreat
end
section
namespace Go.Proofs.YtdiemgedlfnlmaaGreat.Y
open Go Go.RowKit
set_option maxRecDepth 100000
abbrev kq (n m:Int):Pt:=.fin (gint n m)
theorem kq_fit {n m:Int} (h:n.natAbs<256) (k:m.natAbs<256):FitP (kq n m):=fit_int h k
abbrev al3A:List SV:=[.one (.c (.b (.s 0 0 3 3)))]
abbrev al3L:List Lf:=pw (kq 1 0)++pw (kq 2 0)++pw (kq 1 0)
def AlikeT:Prop:=∀ (β:Env) (w:World),(Ob.box al3L PTT).holds β w (β 0)→Calls Tryz.prog 144 (al3A.map (SV.den β)).toArray w fun e w'=>e=.returned (.tuple #[.int .i64 0,.int .i64 2,.int .i64 0])∧Below w.heap.size w w'
def sAlike3 (h:AlikeT):BSpec Tryz.prog:=⟨144,Tryz.call144,al3A,al3L,PTT,.tuple #[.int .i64 0,.int .i64 2,.int .i64 0],h,by kernel_rfl,fun _=>rfl⟩
def sNum7 (k:Int):Spec Tryz.prog:=Spec.auto Tryz.call26 [.one (nI' k)] [] (.one (nI' k)) [] [] [] 400 Tryz.func26 hmA (by kernel_rfl) (fun β=>by kernel_rfl)
theorem k_ch:chQ (kq 1 0) (kq 0 1)=Rat.divInt 2 1:=of_decide_eq_true (by kernel_rfl:decide (chQ (kq 1 0) (kq 0 1)=Rat.divInt 2 1)=true)
theorem k_l1:lf1Q (kq 2 0)=Rat.divInt 4 5:=of_decide_eq_true (by kernel_rfl:decide (lf1Q (kq 2 0)=Rat.divInt 4 5)=true)
theorem k_l2:lf2Q (kq 2 0)=Rat.divInt 0 1:=of_decide_eq_true (by kernel_rfl:decide (lf2Q (kq 2 0)=Rat.divInt 0 1)=true)
theorem k_l3:lf3Q (kq 2 0)=Rat.divInt 3 5:=of_decide_eq_true (by kernel_rfl:decide (lf3Q (kq 2 0)=Rat.divInt 3 5)=true)
theorem k_ac:gdiv (gneg (byB (kq 1 0))) (gconj (byA (kq 1 0)))=gint (-1) 0:=GQ.ext2 (of_decide_eq_true (by kernel_rfl:decide ((gdiv (gneg (byB (kq 1 0))) (gconj (byA (kq 1 0)))).re=(gint (-1) 0).re)=true)) (of_decide_eq_true (by kernel_rfl:decide ((gdiv (gneg (byB (kq 1 0))) (gconj (byA (kq 1 0)))).im=(gint (-1) 0).im)=true))
theorem k_fit1 {x y:Rat} (e:x=y) (h:Fit y):SV.tup [.a (fA x),nI' (ansK x)]=.tup [.a (fC y),nI' 0]:=by rw [e,(fA_fit h).1,(fA_fit h).2]
theorem k_lift:SV.tup [.a (fC (lf1Q (kq 2 0))++fC (lf2Q (kq 2 0))++fC (lf3Q (kq 2 0))),nI' 0]=.tup [.a (fC (Rat.divInt 4 5)++fC (Rat.divInt 0 1)++fC (Rat.divInt 3 5)),nI' 0]:=by rw [k_l1,k_l2,k_l3]
theorem k_told {z w:GQ} (e:z=w) (h:FitG w):SV.tup [.a (lsX (paC (.fin z))),.c (.b (.v (.int .i64 (paK (.fin z)))))]=.tup [.a (pw (.fin w)),nI' 0]:=by rw [e]; exact pa_eq (p:=.fin w) h
theorem k45:Fit (Rat.divInt 4 5):=(sz_lit 4 5 (by decide) (by decide) (by decide)).fit (by decide)
theorem k35:Fit (Rat.divInt 3 5):=(sz_lit 3 5 (by decide) (by decide) (by decide)).fit (by decide)
theorem k01:Fit (Rat.divInt 0 1):=(Sz.small (n:=0) (by decide)).fit (by decide)
theorem k21:Fit (Rat.divInt 2 1):=(Sz.small (n:=2) (by decide)).fit (by decide)
theorem kz (n:Int) (h:n.natAbs<256):sz n≤1000000000:=Nat.le_trans (sz_small h) (by decide)
noncomputable def k7E (h:AlikeT):List (Ev Tryz.prog) :=
 [(sR7Int 0 0).e,(sSInverse0 (p:=kq 0 0) (kq_fit (n:=0) (m:=0) (by decide) (by decide)) rfl).e,(sR7Int 1 0).e,((sSAcross (p:=kq 1 0) (kq_fit (n:=1) (m:=0) (by decide) (by decide)) rfl).conv (.tup [.a (pw (kq (-1) 0)),nI' 0]) (k_told k_ac (kq_fit (n:=-1) (m:=0) (by decide) (by decide)))).e,
  (sR7Int 1 0).e,(sR7Int 0 1).e,((sSChord (p:=kq 1 0) (q:=kq 0 1) (kq_fit (n:=1) (m:=0) (by decide) (by decide)) (kq_fit (n:=0) (m:=1) (by decide) (by decide))).conv (.tup [.a (fC (Rat.divInt 2 1)),nI' 0]) (k_fit1 k_ch k21)).e,
  (sR7Int 2 0).e,((sSLift (p:=kq 2 0) (kq_fit (n:=2) (m:=0) (by decide) (by decide)) (k_l1▸k45) (k_l2▸k01) (k_l3▸k35)).conv (.tup [.a (fC (Rat.divInt 4 5)++fC (Rat.divInt 0 1)++fC (Rat.divInt 3 5)),nI' 0]) k_lift).e,
  (sR7Int 1 0).e,(sR7Int 2 0).e,(sR7Int 1 0).e,(sAlike3 h).e,
  sR7Inf.e,eqEvPt (ptB_iff.2 rfl:ptB .inf .inf=true),(sNum7 0).e,(sR7Int (-1) 0).e,eqEvPt (ptB_iff.2 rfl:ptB (kq (-1) 0) (kq (-1) 0)=true),(sNum7 0).e,(sR3Int 2 (by decide)).e,eqEvF (fR (Rat.divInt 2 1)) (fR (Rat.divInt 2 1)) true (R4.eq_iff.2 rfl),(sNum7 0).e,
  (sR3Small 4 5 (by decide) (by decide) (by decide) (kz 4 (by decide)) (kz 5 (by decide))).e,(sR3Int 0 (by decide)).e,(sR3Small 3 5 (by decide) (by decide) (by decide) (kz 3 (by decide)) (kz 5 (by decide))).e,
  eqEvF3 (fR (Rat.divInt 4 5)) (fR (Rat.divInt 0 1)) (fR (Rat.divInt 3 5)) (fR (Rat.divInt 4 5)) (fR (Rat.divInt 0 1)) (fR (Rat.divInt 3 5)) true (by rw [R4.eq_iff.2 rfl,R4.eq_iff.2 rfl,R4.eq_iff.2 rfl]; rfl),(sNum7 0).e,(sNum7 0).e,sInfinity.e,sR7Inf.e,eqEvPt (ptB_iff.2 rfl:ptB .inf .inf=true)]
noncomputable def sKnown7 (h:AlikeT):Spec Tryz.prog :=
 Spec.auto Tryz.call22 [] [] (tB' true) [] (k7E h) [(6,60)] 2000 Tryz.func22 hmA (by kernel_rfl) (fun β=>by kernel_rfl)
def mapT (es:Array MapEntry) (clk:Nat):Thing:=thing (fun w g=>(∀ c,g.F c↔c=g.b)∧g.u 0=.map (some g.b)∧w.heap[g.b]?=some (.map es clk))
 ⟨fun w g h c hc=>by rw [(h.1 c).1 hc]; exact heap_lt h.2.2,fun w w' g h k=>⟨h.1,h.2.1,by rw [k.block g.b (heap_lt h.2.2)]; exact h.2.2⟩,
  fun w w' g b o n m h hs ht hF=>⟨h.1,h.2.1,by rw [ht.block g.b (heap_lt h.2.2) (fun e=>hF ((h.1 _).2 e.symm))]; exact h.2.2⟩⟩
def mapO (es:Array MapEntry) (clk:Nat):Ob:=.ow (mapT es clk) 9
theorem mp_make (t:TypeId) (β:Env) (w:World) (ρ:Operand→Value) (o:Oper) (n:Nat) (ho:o.op=.makeMap t none) :
  ∃ (g:Pl) (w':World),(execOp ρ o).run Tryz.prog w=.ok (.value ((SV.one (.c (.b (.gh n 0)))).den (extE β n [g]))) w'∧(mapO #[] 0).holds (extE β n [g]) w' g∧Grow β w w' none g∧owF β [] none g:=by
 refine ⟨⟨w.heap.size,fun _=>none,fun _=>0,fun c=>c=w.heap.size,fun _=>.map (some w.heap.size)⟩,w.alloc (.map #[] 0),?_,⟨⟨rfl,by decide,_,(MapKept.heap_alloc w _).1⟩,fun c=>Iff.rfl,rfl,(MapKept.heap_alloc w _).1⟩,.inl ⟨Nat.le_refl _,⟨rfl,rfl,rfl,by simp [alloc_heap],fun k hk=>(MapKept.heap_alloc w _).2 k hk⟩⟩,fun c hc=>.inl hc⟩
 have e:(SV.one (.c (.b (.gh n 0)))).den (extE β n [(⟨w.heap.size,fun _=>none,fun _=>0,fun c=>c=w.heap.size,fun _=>.map (some w.heap.size)⟩:Pl)])=.map (some w.heap.size):=by
  have:=extE_in (β:=β) (n:=n) (xs:=[(⟨w.heap.size,fun _=>none,fun _=>0,fun c=>c=w.heap.size,fun _=>.map (some w.heap.size)⟩:Pl)]) (i:=0) rfl
  simp only [Nat.add_zero] at this
  simp only [SV.den,SC.den,Lf.den,Lf0.den,this]
 rw [e]
 unfold execOp
 rw [ho]
 rfl
def eMapMk:Ev Tryz.prog:=.dynU (fun o _ _=>match o.op,o.dst with
 | .makeMap _ none,some _=>true
 | _,_=>false) fun o _ ob=>match o.op,o.dst with
 | .makeMap t none,some d=>lit ob.length fun n=>.upd (some d) (.makeMap t none) (fun _=>[]) [] none n (mapO #[] 0) (.one (.c (.b (.gh n 0)))) (fun β w _ _ ρ o ho _=>mp_make t β w ρ o n ho)
 | _,_=>.cut
def owAt:List Ob→Nat→Nat
 | [],_=>0
 | .ow _ _::_,k=>k
 | _::r,k=>owAt r (k+1)
theorem mp_hold {es:Array MapEntry} {clk k:Nat} {β:Env} {w:World} (h:holdsAll β w [(k,mapO es clk)]):(β k).u 0=.map (some (β k).b)∧w.heap[(β k).b]?=some (.map es clk):=by
 have h1:(mapO es clk).holds β w (β k):=h _ (List.mem_singleton.2 rfl)
 exact h1.2.2
structure LookT (T:TypeId) (es:Array MapEntry) (key:Value) (v:Value) (b:Bool):Prop where
 run:∀ (r:Nat) (clk:Nat) (w:World),w.heap[r]?=some (.map es clk)→(Instr.lookup T (.map (some r)) key true).run Tryz.prog w=.ok (.tuple #[v,.bool b]) w
theorem mp_look {T:TypeId} {es:Array MapEntry} {key v:Value} {b:Bool} (L:LookT T es key v b) {clk k:Nat} (sv:Lf0) (hs:∀ β,sv.den β=v) (x y:Operand) (β:Env) (w:World) (h:holdsAll β w [(k,mapO es clk)]) (ρ:Operand→Value) (o:Oper) (ho:o.op=.lookup T x y true)
  (hx:(Op.lookup T x y true).operands.toList.map ρ=[(β k).u 0,key]):∃ ys w',fresh β w [(k,mapO es clk)] ys∧(execOp ρ o).run Tryz.prog w=.ok (.value ((SV.tup [.c (.b sv),.c (.b (.v (.bool b)))]).den (extE β 0 ys))) w'∧newHold w' [] ys∧Below w.heap.size w w':=by
 obtain ⟨h1,h2⟩:=mp_hold h
 refine ⟨[],w,(fun _ h=>by cases h),?_,trivial,Below.refl _ _⟩
 have h3:ρ x=.map (some (β k).b)∧ρ y=key:=by simpa [Op.operands,h1] using hx
 unfold execOp
 rw [ho]
 dsimp only
 rw [h3.1,h3.2]
 have h4:=L.run (β k).b clk w h2
 have e:((SV.tup [.c (.b sv),.c (.b (.v (.bool b)))]).den (extE β 0 []))=.tuple #[v,.bool b]:=by
  show Value.tuple (List.toArray [sv.den (extE β 0 []),.bool b])=_
  rw [hs]
 rw [e]
 simp [go_sem,h4]
def eLook {T:TypeId} {es:Array MapEntry} {key v:Value} {b:Bool} (L:LookT T es key v b) (clk:Nat) (sv:Lf0) (hs:∀ β,sv.den β=v):Ev Tryz.prog:=.dyn (fun o _ _=>match o.op with
 | .lookup t _ _ true=>Nat.beq t T
 | _=>false) fun o _ ob=>match o.op with
 | .lookup _ x y true=>lit (owAt ob 0) fun k=>.rd (o.dst.getD 0) (.lookup T x y true) (fun β=>[(β k).u 0,key]) [(k,mapO es clk)] 0 (.tup [.c (.b sv),.c (.b (.v (.bool b)))]) [] (fun β w h ρ o ho hx=>mp_look L sv hs x y β w h ρ o ho hx)
 | _=>.cut
structure PutT (T:TypeId) (es:Array MapEntry) (key v:Value):Prop where
 run:∀ (r:Nat) (clk:Nat) (w:World),w.heap[r]?=some (.map es clk)→(Instr.mapUpdate T (.map (some r)) key v).run Tryz.prog w=.ok () { w with heap:=w.heap.setIfInBounds r (.map (es.push ⟨key,v,clk⟩) (clk+1)) }
theorem mp_put {T:TypeId} {es:Array MapEntry} {key v:Value} (L:PutT T es key v) {clk k:Nat} (x y z:Operand) (β:Env) (w:World) (h:(mapO es clk).holds β w (β k)) (ρ:Operand→Value) (o:Oper) (ho:o.op=.mapUpdate T x y z)
  (hx:(Op.mapUpdate T x y z).operands.toList.map ρ=[(β k).u 0,key,v]):∃ w':World,(execOp ρ o).run Tryz.prog w=.ok .skip w'∧(mapO (es.push ⟨key,v,clk⟩) (clk+1)).holds β w' (β k)∧NW w (β k).b∧∃ o n,Touch w w' (β k).b o n:=by
 obtain ⟨⟨hF,_,_⟩,h0,h1,h2⟩:=h
 have hs:=MapKept.heap_set (o':=.map (es.push ⟨key,v,clk⟩) (clk+1)) h2
 refine ⟨{ w with heap:=w.heap.setIfInBounds (β k).b (.map (es.push ⟨key,v,clk⟩) (clk+1)) },?_,⟨⟨hF,by decide,_,hs.1⟩,h0,h1,hs.1⟩,(fun cs fr e=>by rw [h2] at e; cases e),0,0,⟨rfl,rfl,rfl,by simp,fun i hi hn=>hs.2 i hn,fun cs t fr e=>by rw [h2] at e; cases e⟩⟩
 have h3:ρ x=.map (some (β k).b)∧ρ y=key∧ρ z=v:=by simpa [Op.operands,h1] using hx
 unfold execOp
 rw [ho]
 dsimp only
 rw [h3.1,h3.2.1,h3.2.2]
 have h4:=L.run (β k).b clk w h2
 simp [go_sem,h4]
def eMapPut {T:TypeId} {es:Array MapEntry} {key v:Value} (L:PutT T es key v) (clk:Nat):Ev Tryz.prog:=.dynU (fun o _ _=>match o.op with
 | .mapUpdate t _ _ _=>Nat.beq t T
 | _=>false) fun o _ ob=>match o.op with
 | .mapUpdate _ x y z=>lit (owAt ob 0) fun k=>.chg (.mapUpdate T x y z) (fun β=>[(β k).u 0,key,v]) [] k (mapO es clk) (mapO (es.push ⟨key,v,clk⟩) (clk+1)) (fun β w _ h ρ o ho hx=>mp_put L x y z β w h ρ o ho hx)
 | _=>.cut
section
variable {T kt et:TypeId} {es:Array MapEntry} {key:Value} (hu:Tryz.prog.underlying T=some (.map kt et)) (hck:∀ w,(Instr.checkKey es.isEmpty 10000 kt key).run Tryz.prog w=.ok () w)
include hu hck
theorem look_yes {i:Nat} {v:Value} (hf:∀ w,(Instr.findKey kt key es.toList).run Tryz.prog w=.ok (some (i,v)) w):LookT T es key v true:=⟨fun r clk w h=>by
 unfold Instr.lookup
 simp only [Sem.run_bind,run_underlying hu,MapKept.run_getObj_map h,hck,hf,Result.andThen,Sem.run_pure]
 rfl⟩
theorem look_no {z:Value} (hz:∀ w,(zeroValue et).run Tryz.prog w=.ok z w) (hf:∀ w,(Instr.findKey kt key es.toList).run Tryz.prog w=.ok none w):LookT T es key z false:=⟨fun r clk w h=>by
 unfold Instr.lookup
 simp only [Sem.run_bind,run_underlying hu,MapKept.run_getObj_map h,hck,hf,hz,Result.andThen,Sem.run_pure]
 rfl⟩
end
theorem put_new {T kt et:TypeId} {es:Array MapEntry} {key:Value} (hu:Tryz.prog.underlying T=some (.map kt et)) (hck:∀ w,(Instr.checkKey false 10000 kt key).run Tryz.prog w=.ok () w) (hf:∀ w,(Instr.findKey kt key es.toList).run Tryz.prog w=.ok none w) (v:Value):PutT T es key v:=⟨fun r clk w h=>by
 unfold Instr.mapUpdate
 simp only [Sem.run_bind,run_underlying hu,MapKept.run_getObj_map h,hck,hf,Result.andThen,MapKept.run_setObj_map _ h]⟩
abbrev al3P:Pp:=ppt (kq 1 0) (kq_fit (n:=1) (m:=0) (by decide) (by decide))
abbrev al3Q:Pp:=ppt (kq 2 0) (kq_fit (n:=2) (m:=0) (by decide) (by decide))
abbrev ck3A:List SV:=[.one (.c (.b (.s 0 0 3 3))),ck2F]
theorem ck3Idx_ok (β:Env) (w:World) (hh:(Ob.box al3L PTT).holds β w (β 0)) :
  Calls Tryz.prog 310 (ck3A.map (SV.den β)).toArray w fun e w'=>e=.returned (.int .i64 (-1))∧Below w.heap.size w w' :=
 bspec_ok [(sChkW al3P (b:=true) rfl).e,(sChkW al3Q (b:=true) rfl).e,(sChkW al3P (b:=true) rfl).e] [] 800 Tryz.func310 hmA (fun β=>by kernel_rfl) (by kernel_rfl) (fun β=>rfl) β w hh
noncomputable def sCk3Idx:BSpec Tryz.prog :=
 ⟨310,Tryz.call310,ck3A,al3L,PTT,.int .i64 (-1),ck3Idx_ok,by kernel_rfl,fun _=>rfl⟩
theorem ck3Has_ok (β:Env) (w:World) (hh:(Ob.box al3L PTT).holds β w (β 0)) :
  Calls Tryz.prog 214 (ck3A.map (SV.den β)).toArray w fun e w'=>e=.returned (.bool false)∧Below w.heap.size w w' :=
 bspec_ok [sCk3Idx.e] [] 800 Tryz.func214 hmA (fun β=>by kernel_rfl) (by kernel_rfl) (fun β=>rfl) β w hh
noncomputable def sCk3Has:BSpec Tryz.prog :=
 ⟨214,Tryz.call214,ck3A,al3L,PTT,.bool false,ck3Has_ok,by kernel_rfl,fun _=>rfl⟩
theorem check3_ok (β:Env) (w:World) (hh:(Ob.box al3L PTT).holds β w (β 0)) :
  Calls Tryz.prog 148 (al3A.map (SV.den β)).toArray w fun e w'=>e=.returned (.int .i64 0)∧Below w.heap.size w w' :=
 bspec_ok [sCk3Has.e] [] 800 Tryz.func148 hmA (fun β=>by kernel_rfl) (by kernel_rfl) (fun β=>rfl) β w hh
noncomputable def sCheck3:BSpec Tryz.prog :=
 ⟨148,Tryz.call148,al3A,al3L,PTT,.int .i64 0,check3_ok,by kernel_rfl,fun _=>rfl⟩
abbrev MPT:TypeId:=301
abbrev akV (p:Pt):Value:=.agg ((pw p).map (Lf.den idE)).toArray
abbrev akE0:Array MapEntry:=#[]
abbrev akE1:Array MapEntry:=akE0.push ⟨akV (kq 1 0),.int .i64 0,0⟩
abbrev akE2:Array MapEntry:=akE1.push ⟨akV (kq 2 0),.int .i64 1,1⟩
theorem ak_hu:Tryz.prog.underlying MPT=some (.map PTT 3):=by kernel_rfl
theorem ak_ck (b:Bool) (p:Pt) (h:p=kq 1 0∨p=kq 2 0):∀ w,(Instr.checkKey b 10000 PTT (akV p)).run Tryz.prog w=.ok () w:=by
 rcases h with rfl | rfl<;>cases b<;>exact fun w=>by kernel_rfl
theorem ak_z:∀ w,(zeroValue 3).run Tryz.prog w=.ok (.int .i64 0) w:=fun w=>by kernel_rfl
theorem ak_l0:LookT MPT akE0 (akV (kq 1 0)) (.int .i64 0) false:=look_no ak_hu (ak_ck _ _ (.inl rfl)) ak_z fun w=>by kernel_rfl
theorem ak_l1:LookT MPT akE1 (akV (kq 2 0)) (.int .i64 0) false:=look_no ak_hu (ak_ck _ _ (.inr rfl)) ak_z fun w=>by kernel_rfl
theorem ak_l2:LookT MPT akE2 (akV (kq 1 0)) (.int .i64 0) true:=look_yes ak_hu (ak_ck _ _ (.inl rfl)) (i:=0) fun w=>by kernel_rfl
theorem ak_p0:PutT MPT akE0 (akV (kq 1 0)) (.int .i64 0):=put_new ak_hu (ak_ck _ _ (.inl rfl)) (fun w=>by kernel_rfl) _
theorem ak_p1:PutT MPT akE1 (akV (kq 2 0)) (.int .i64 1):=put_new ak_hu (ak_ck _ _ (.inr rfl)) (fun w=>by kernel_rfl) _
noncomputable def akEv:List (Ev Tryz.prog) :=
 [sCheck3.e,eMapMk,eLook ak_l0 0 (.v (.int .i64 0)) (fun _=>rfl),eMapPut ak_p0 0,eLook ak_l1 1 (.v (.int .i64 0)) (fun _=>rfl),eMapPut ak_p1 1,eLook ak_l2 2 (.v (.int .i64 0)) (fun _=>rfl)]
theorem alike3:AlikeT:=fun β w hh =>
 bspec_ok akEv [] 2000 Tryz.func144 hmA (fun β=>by kernel_rfl) (by kernel_rfl) (fun β=>rfl) β w hh
noncomputable abbrev soA (V:Pt):SV:=.tup [.a (rawC (paI V) (paX V) (paY V)),nI' (paK V)]
theorem soA_raw (V:Pt):(SV.tup [.a (lsX (paC V)),.c (.b (.v (.int .i64 (paK V))))]:SV)=soA V:=by rw [paC_raw]
theorem soA_inf:infA=soA .inf:=by
 rw [← soA_raw]
 rfl
theorem so_div1 (z:GQ):gdiv z (byB (.fin z))=z:=by
 show gdiv z (gint 1 0)=z
 rw [gint10,gq_div_one]
theorem so_byB (z:GQ):gzero (byB (.fin z))=false:=by
 show gzero (gint 1 0)=false
 exact gz_false.2 gq_one_ne
section
variable {p:Pt} (hp:FitP p)
noncomputable def soNegY:Spec Tryz.prog :=
 ⟨30,Tryz.call30,[svP p],[],soA (soNeg p),[],fun β w hh=>by
  cases p with
  | inf=>exact ((sSNeg0 hp (by kernel_rfl)).conv (soA .inf) soA_inf).ok β w hh
  | fin z=>exact ((sSNeg hp (so_byB z)).conv (soA (.fin (gneg z))) (by
    show SV.tup [.a (lsX (paC (.fin (gdiv (gneg z) (byB (.fin z)))))),.c (.b (.v (.int .i64 (paK (.fin (gdiv (gneg z) (byB (.fin z))))))))]=_
    rw [show gdiv (gneg z) (byB (.fin z))=gneg z from so_div1 (gneg z),soA_raw])).ok β w hh,by kernel_rfl⟩
noncomputable def soConjY:Spec Tryz.prog :=
 ⟨31,Tryz.call31,[svP p],[],soA (soConj p),[],fun β w hh=>by
  cases p with
  | inf=>exact ((sSConj0 hp (by kernel_rfl)).conv (soA .inf) soA_inf).ok β w hh
  | fin z=>exact ((sSConj hp (so_byB z)).conv (soA (.fin (gconj z))) (by
    show SV.tup [.a (lsX (paC (.fin (gdiv (gconj z) (byB (.fin z)))))),.c (.b (.v (.int .i64 (paK (.fin (gdiv (gconj z) (byB (.fin z))))))))]=_
    rw [show gdiv (gconj z) (byB (.fin z))=gconj z from so_div1 (gconj z),soA_raw])).ok β w hh,by kernel_rfl⟩
noncomputable def soInvY:Spec Tryz.prog :=
 ⟨32,Tryz.call32,[svP p],[],soA (soInv p (gzero (byA p))),[],fun β w hh=>by
  cases h:gzero (byA p) with
  | true=>exact ((sSInverse0 hp h).conv (soA .inf) soA_inf).ok β w hh
  | false=>exact ((sSInverse hp h).conv (soA (.fin (gdiv (byB p) (byA p)))) (soA_raw _)).ok β w hh,by kernel_rfl⟩
theorem so_byA (p:Pt):byA (soConj p)=gconj (byA p):=by
 cases p with
 | inf =>
  show gint 1 0=gconj (gint 1 0)
  rw [gint10]
  refine GQ.ext2 rfl ?_
  simp [gconj]
 | fin z=>rfl
theorem so_byBc (p:Pt):byB (soConj p)=byB p:=by cases p<;>rfl
noncomputable def soAcrY:Spec Tryz.prog :=
 ⟨33,Tryz.call33,[svP p],[],soA (soNeg (soInv (soConj p) (gzero (byA (soConj p))))),[],fun β w hh=>by
  rw [so_byA]
  cases h:gzero (gconj (byA p)) with
  | true=>exact ((sSAcross0 hp h).conv (soA .inf) soA_inf).ok β w hh
  | false =>
   have e:gdiv (gneg (byB p)) (gconj (byA p))=gneg (gdiv (byB (soConj p)) (byA (soConj p))):=by
    rw [so_byA,so_byBc]
    have h0:=gz_false.1 h
    rw [gdiv_eq_iff h0]
    have h1:=(gdiv_eq_iff (z:=byB p) h0).1 rfl
    generalize gdiv (byB p) (gconj (byA p))=q at *
    rw [h1]
    refine GQ.ext2 ?_ ?_<;>(simp only [gneg,gmul]; grind)
   exact ((sSAcross hp h).conv (soA (.fin (gneg (gdiv (byB (soConj p)) (byA (soConj p)))))) (by
    show SV.tup [.a (lsX (paC (.fin (gdiv (gneg (byB p)) (gconj (byA p)))))),.c (.b (.v (.int .i64 (paK (.fin (gdiv (gneg (byB p)) (gconj (byA p))))))))]=_
    rw [e,soA_raw])).ok β w hh,by kernel_rfl⟩
end
theorem so2v:so2=2:=of_decide_eq_true (by kernel_rfl:decide (so2=2)=true)
theorem lfM_fin (z:GQ):lfM (.fin z)=z:=by
 show gmul z (gconj (gint 1 0))=z
 rw [gint10]
 refine GQ.ext2 ?_ ?_<;>(simp only [gmul,gconj]; grind)
theorem soL1_eq (z:GQ):lf1Q (.fin z)=soL1 z:=by
 unfold lf1Q soL1
 rw [lfM_fin,wg_fin,show z.re*lf2=so2*z.re from Rat.mul_comm _ _]
theorem soL2_eq (z:GQ):lf2Q (.fin z)=soL2 z:=by
 unfold lf2Q soL2
 rw [lfM_fin,wg_fin,show z.im*lf2=so2*z.im from Rat.mul_comm _ _]
theorem soL3_eq (z:GQ):lf3Q (.fin z)=soL3 z:=by
 unfold lf3Q soL3
 rw [wg_fin,show gnorm (byA (.fin z))-gnorm (byB (.fin z))=rwQ z-so2 by
  show gnorm z-gnorm (gint 1 0)=_
  unfold rwQ
  rw [i1v,so2v,gint10]
  unfold gnorm
  grind]
theorem iz2c:Iz 1 so2:=⟨2,by decide,so2v⟩
theorem soL_fit {z:GQ} (hz:GSz 80 z):Fit (soL1 z)∧Fit (soL2 z)∧Fit (soL3 z):=by
 obtain ⟨D,d0,d1,d2,d3⟩:=iz2 hz
 have W:=(rw_iz d1 d2 d3).mono (k:=600) (by decide)
 have dd:=mul_ne d0 d0
 refine ⟨?_,?_,?_⟩
 · have h:soL1 z=so2*z.re*(D*D)*(rwQ z*(D*D))⁻¹:=quo_scale (rw_ne z) dd
   rw [h,show so2*z.re*(D*D)=so2*((z.re*D)*D) by grind]
   exact (iz_quo ((iz2c.mul (d2.mul d1)).mono (k:=600) (by decide)) W).fit (by decide)
 · have h:soL2 z=so2*z.im*(D*D)*(rwQ z*(D*D))⁻¹:=quo_scale (rw_ne z) dd
   rw [h,show so2*z.im*(D*D)=so2*((z.im*D)*D) by grind]
   exact (iz_quo ((iz2c.mul (d3.mul d1)).mono (k:=600) (by decide)) W).fit (by decide)
 · have h:soL3 z=(rwQ z-so2)*(D*D)*(rwQ z*(D*D))⁻¹:=quo_scale (rw_ne z) dd
   rw [h,show (rwQ z-so2)*(D*D)=(z.re*D)*(z.re*D)+(z.im*D)*(z.im*D)-D*D by
    unfold rwQ gnorm
    rw [i1v,so2v]
    grind]
   exact (iz_quo ((((d2.mul d2).add (d3.mul d3)).sub ((d1.mul d1).mono (by decide))).mono (k:=600) (by decide)) W).fit (by decide)
noncomputable def soLiftF {z:GQ} (hz:GSz 80 z) (hF:FitG z):Spec Tryz.prog :=
 (sSLift (p:=.fin z) hF (by rw [soL1_eq]; exact (soL_fit hz).1) (by rw [soL2_eq]; exact (soL_fit hz).2.1) (by rw [soL3_eq]; exact (soL_fit hz).2.2)).conv (.tup [.a (fC (soL1 z)++fC (soL2 z)++fC (soL3 z)),nI' 0]) (by
  show SV.tup [.a (fC (lf1Q (.fin z))++fC (lf2Q (.fin z))++fC (lf3Q (.fin z))),nI' 0]=_
  rw [soL1_eq,soL2_eq,soL3_eq])
theorem soLI1:lf1Q .inf=Rat.divInt 0 1:=of_decide_eq_true (by kernel_rfl:decide (lf1Q .inf=Rat.divInt 0 1)=true)
theorem soLI2:lf2Q .inf=Rat.divInt 0 1:=of_decide_eq_true (by kernel_rfl:decide (lf2Q .inf=Rat.divInt 0 1)=true)
theorem soLI3:lf3Q .inf=Rat.divInt 1 1:=of_decide_eq_true (by kernel_rfl:decide (lf3Q .inf=Rat.divInt 1 1)=true)
theorem so_small {n:Int} (h:n.natAbs<256):Fit (Rat.divInt n 1):=(Sz.small (n:=n) h).fit (by decide)
noncomputable def soLiftI:Spec Tryz.prog :=
 (sSLift (p:=.inf) trivial (by rw [soLI1]; exact so_small (by decide)) (by rw [soLI2]; exact so_small (by decide)) (by rw [soLI3]; exact so_small (by decide))).conv (.tup [.a (fC (Rat.divInt 0 1)++fC (Rat.divInt 0 1)++fC (Rat.divInt 1 1)),nI' 0]) (by
  show SV.tup [.a (fC (lf1Q .inf)++fC (lf2Q .inf)++fC (lf3Q .inf)),nI' 0]=_
  rw [soLI1,soLI2,soLI3])
section
variable (a b:Fp) {r:Bool} (hr:(Pp.fin a b).B=r)
abbrev soG:SV:=.one (.a (lsX (a.raw.L++b.raw.L)))
noncomputable def soOfY:Spec Tryz.prog :=
 Spec.auto Tryz.call36 [soG a b] [] (.tup [bif r then .a (rawC false a.raw b.raw) else pt0,bif r then nI' 0 else nI' 2]) [] [(soMay (.fin a b) hr).e] [] 800 Tryz.func36 hmA (by cases r<;>kernel_rfl) (fun β=>by cases r<;>kernel_rfl)
def so4May:Spec Tryz.prog:=(sR4May a b).as [soG a b] (tB' r) (by cases a<;>cases b<;>rfl) (congrArg tB' hr)
def so7Of:Spec Tryz.prog:=Spec.auto Tryz.call40 [soG a b] [] (svR false a.raw b.raw) [] [] [] 400 Tryz.func40 hmA (by kernel_rfl) (fun β=>by kernel_rfl)
end
noncomputable def soIs (V:Pt):Spec Tryz.prog :=
 Spec.auto Tryz.call38 [.one (.a (rawC (paI V) (paX V) (paY V))),.one (nI' (paK V)),tB' true,svP V] [] (tB' true) []
  [(sR7Told V).e,eqEvP (paI V) (paI V) (paX V) (paY V) (paX V) (paY V) true (rwB_iff.2 ⟨rfl,rfl,rfl⟩),(sNum7 (paK V)).e,.eqv 33 (.bool (paK V==paK V)) (.bool true) (ieq_self _)] [] 400 Tryz.func38 hmA (by kernel_rfl) (fun β=>by kernel_rfl)
noncomputable def soIsN (w:Rw):Spec Tryz.prog :=
 Spec.auto Tryz.call38 [.one pt0,.one (nI' 2),tB' false,.one (.a (lsX w.C))] [] (tB' true) []
  [eqEvP false false r40 r40 r40 r40 true (by kernel_rfl),(sNum7 2).e] [] 400 Tryz.func38 hmA (by kernel_rfl) (fun β=>by kernel_rfl)
abbrev so1A (k:Nat):List SV:=[.one (.c (.b (.v (.int .i64 (k:Int))))),.one (.c (.b (.s 0 0 1 1)))]
theorem small71_ok (k:Nat) (p:Rw) {b:Bool} (hb:p.sm k=b) (β:Env) (w:World) (hh:(Ob.box p.C 39).holds β w (β 0)) :
  Calls Tryz.prog 21 ((so1A k).map (SV.den β)).toArray w fun e w'=>e=.returned (.bool b)∧Below w.heap.size w w':=by
 cases b<;>exact bspec_ok [(sR4Small k p.x p.y hb).e] [] 800 Tryz.func21 hmA (fun β=>by kernel_rfl) (by kernel_rfl) (fun β=>rfl) β w hh
def sR7Small1 (k:Nat) (p:Rw) {b:Bool} (hb:p.sm k=b):BSpec Tryz.prog :=
 ⟨21,Tryz.call21,so1A k,p.C,39,.bool b,small71_ok k p hb,by kernel_rfl,fun _=>rfl⟩
abbrev soNs:List (Nat × Nat):=[(15,52)]
noncomputable def so1 (p:Rw) (h:p.sm 80=false):Spec Tryz.prog :=
 Spec.auto Tryz.call5 [.one (.a (lsX p.C))] [] (tB' true) [] [(sR7Small1 80 p h).e,(sKnown7 alike3).e] soNs 2000 Tryz.func5 hmA (by kernel_rfl) (fun β=>by kernel_rfl)
noncomputable def soIsF {V:Pt} (hF:FitP V):Spec Tryz.prog :=
 (soIs V).as [svP V,.one (nI' 0),tB' true,svP V] (tB' true) (by
  show [SV.one (.a (rawC (paI V) (paX V) (paY V))),.one (nI' (paK V)),tB' true,svP V]=_
  rw [(pa_fit hF).1,(pa_fit hF).2.1,(pa_fit hF).2.2,paK_fit hF]) rfl
def eqR3 (x y z:R4):Ev Tryz.prog:=eqEvF3 x y z x y z true (by rw [R4.eq_iff.2 rfl,R4.eq_iff.2 rfl,R4.eq_iff.2 rfl]; rfl)
section
variable (i:Bool) (a b:Fp) (p:Pp) (hw:p.w=⟨i,a.raw,b.raw⟩) (hp:p.B=false) (hs:(⟨i,a.raw,b.raw⟩:Rw).sm 80=true)
theorem so_arg {i:Bool} {a b:Fp} {p:Pp} (hw:p.w=⟨i,a.raw,b.raw⟩):[SV.one (.a (lsX p.w.C))]=[svR i a.raw b.raw]:=by
 rw [hw]
 rfl
theorem so_arg2 {i:Bool} {a b:Fp} {p:Pp} (hw:p.w=⟨i,a.raw,b.raw⟩):[svR p.rI p.rX p.rY]=[svR i a.raw b.raw]:=so_arg hw
noncomputable def soNE:List (Ev Tryz.prog) :=
 [(sR7Small1 80 ⟨i,a.raw,b.raw⟩ hs).e,((sR7May p hp).as [svR i a.raw b.raw] (tB' false) (so_arg2 hw) rfl).e,((soNegNo p hp).as [svR i a.raw b.raw] soN (so_arg hw) rfl).e,((soConjNo p hp).as [svR i a.raw b.raw] soN (so_arg hw) rfl).e,
  ((soInvNo p hp).as [svR i a.raw b.raw] soN (so_arg hw) rfl).e,((soAcrNo p hp).as [svR i a.raw b.raw] soN (so_arg hw) rfl).e,((soLiftNo p hp).as [svR i a.raw b.raw] (.tup [soZ3,nI' 2]) (so_arg hw) rfl).e,
  ((soTextNo p hp).as [svR i a.raw b.raw] (.tup [.c (.b (.v (.string ⟨#[]⟩))),nI' 2]) (so_arg2 hw) rfl).e]
noncomputable def soNF:List (Ev Tryz.prog) :=
 [(soIsN ⟨i,a.raw,b.raw⟩).e,(soIsN ⟨i,a.raw,b.raw⟩).e,(soIsN ⟨i,a.raw,b.raw⟩).e,(soIsN ⟨i,a.raw,b.raw⟩).e,eqR3 r40 r40 r40,(sNum7 2).e,(sNum7 2).e,(sKnown7 alike3).e]
noncomputable def so2s (hr:(Pp.fin a b).B=false):Spec Tryz.prog :=
 Spec.auto Tryz.call5 [svR i a.raw b.raw] [] (tB' true) []
  (soNE i a b p hw hp hs++[(soOfY a b hr).e,((soMay p hp).as [svR i a.raw b.raw] (tB' false) (so_arg2 hw) rfl).e,(so4May a b hr).e,(so7Of a b).e,(soIsN ⟨false,a.raw,b.raw⟩).e]++soNF i a b) soNs 2000 Tryz.func5 hmA (by kernel_rfl) (fun β=>by kernel_rfl)
end
noncomputable def so3s (i:Bool) {z:GQ} (hz:FitG z) (p:Pp) (hw:p.w=⟨i,fR z.re,fR z.im⟩) (hp:p.B=false) (hs:(⟨i,fR z.re,fR z.im⟩:Rw).sm 80=true):Spec Tryz.prog :=
 Spec.auto Tryz.call5 [svR i (fR z.re) (fR z.im)] [] (tB' true) []
  (soNE i (.ok z.re hz.1) (.ok z.im hz.2) p hw hp hs++[(soOfY (.ok z.re hz.1) (.ok z.im hz.2) (r:=true) rfl).e,((soMay p hp).as [svR i (fR z.re) (fR z.im)] (tB' false) (so_arg2 (a:=.ok z.re hz.1) (b:=.ok z.im hz.2) hw) rfl).e,(so4May (.ok z.re hz.1) (.ok z.im hz.2) (r:=true) rfl).e,(so7Of (.ok z.re hz.1) (.ok z.im hz.2)).e,(soIsF (V:=.fin z) hz).e]++soNF i (.ok z.re hz.1) (.ok z.im hz.2)) soNs 2000 Tryz.func5 hmA (by kernel_rfl) (fun β=>by kernel_rfl)
section
variable {p:Pt} (hp:FitP p) (hs:p.w.sm 80=true)
noncomputable def soYE (lift:List (Ev Tryz.prog)):List (Ev Tryz.prog) :=
 [(sR7Small1 80 p.w hs).e,((sR7May (ppt p hp) (b:=true) (ppt_B p hp)).as [svP p] (tB' true) (congrArg (fun r:Rw=>[svR r.i r.x r.y]) (ppt_w p hp)) rfl).e,(soNegY hp).e,(soConjY hp).e,(soInvY hp).e,(soAcrY hp).e]++lift++[(soText hp).e]
noncomputable def soYF (lift:List (Ev Tryz.prog)):List (Ev Tryz.prog) :=
 [(sR7Neg p).e,(soIs (soNeg p)).e,(sR7Cj p).e,(soIs (soConj p)).e,(sR7Inv hp.sz (f:=gzero (byA p)) rfl).e,(soIs (soInv p (gzero (byA p)))).e,(sR7Acr hp.sz (f:=gzero (byA (soConj p))) rfl).e,(soIs (soNeg (soInv (soConj p) (gzero (byA (soConj p)))))).e]++lift ++
  [(sNum7 0).e,(sR7Text hp).e,eStrEq (textP p) (textP p) (decide_eq_true rfl),(sNum7 0).e,(sKnown7 alike3).e]
end
noncomputable def so4i (hs:Pt.inf.w.sm 80=true):Spec Tryz.prog :=
 Spec.auto Tryz.call5 [svP .inf] [] (tB' true) []
  (soYE (p:=.inf) trivial hs [soLiftI.e]++[(soOfY noFr.a noFr.a (r:=false) rfl).e,(soMayP .inf trivial).e,(so4May noFr.a noFr.a (r:=false) rfl).e,(so7Of noFr.a noFr.a).e,(soIsN ⟨false,r40,r40⟩).e] ++
   soYF (p:=.inf) trivial [sR7LiftI.e,eqR3 (fR (Rat.divInt 0 1)) (fR (Rat.divInt 0 1)) (fR (Rat.divInt 1 1))]) soNs 2000 Tryz.func5 hmA (by kernel_rfl) (fun β=>by kernel_rfl)
noncomputable def so4f {z:GQ} (hz:FitG z) (h80:GSz 80 z) (hs:(Pt.fin z).w.sm 80=true):Spec Tryz.prog :=
 Spec.auto Tryz.call5 [svP (.fin z)] [] (tB' true) []
  (soYE (p:=.fin z) hz hs [(soLiftF h80 hz).e]++[(soOfY (.ok z.re hz.1) (.ok z.im hz.2) (r:=true) rfl).e,(soMayP (.fin z) hz).e,(so4May (.ok z.re hz.1) (.ok z.im hz.2) (r:=true) rfl).e,(so7Of (.ok z.re hz.1) (.ok z.im hz.2)).e,(soIsF (V:=.fin z) hz).e] ++
   soYF (p:=.fin z) hz [(sR7LiftF (h80.mono (by decide))).e,eqR3 (fR (soL1 z)) (fR (soL2 z)) (fR (soL3 z))]) soNs 2000 Tryz.func5 hmA (by kernel_rfl) (fun β=>by kernel_rfl)
theorem soQ {k:Nat} {x y:R4} (h:smB k x y=true):(x.s.size≤k∧x.t.size≤k)∧y.s.size≤k∧y.t.size≤k:=by
 have big1:∀ {s:ByteArray},big k s=false→s.size≤k:=fun {s} h=>by
  have:=of_decide_eq_false h
  omega
 unfold smB at h
 simp only [Bool.not_eq_true',Bool.or_eq_false_iff] at h
 exact ⟨⟨big1 h.1,big1 h.2.1⟩,big1 h.2.2.1,big1 h.2.2.2⟩
theorem soQz {z:GQ} (h:smB 80 (fR z.re) (fR z.im)=true):GSz 80 z:=by
 obtain ⟨⟨h1,h2⟩,h3,h4⟩:=soQ h
 exact ⟨⟨h1,by rw [sz_nat]; exact h2⟩,⟨h3,by rw [sz_nat]; exact h4⟩⟩
theorem _root_.Go.Proofs.YtdiemgedlfnlmaaGreat.SphereOne_walk (x:Rw) (hx:x.ok) (w:World) :
  Calls Tryz.prog 5 #[.agg (.bool x.i::(x.x.V++x.y.V)).toArray] w fun e w'=>e=.returned (.bool true)∧Below w.heap.size w w':=by
 cases h:x.sm 80 with
 | false=>exact spec_yes (so1 x h) rfl rfl w
 | true =>
  obtain ⟨p,hp⟩:=pp_of x hx
  cases hB:p.B with
  | true =>
   obtain ⟨q,hq,rfl⟩:=Pp.good hB
   rw [ppt_w] at hp
   subst hp
   cases q with
   | inf=>exact spec_yes (so4i h) rfl rfl w
   | fin z=>exact spec_yes (so4f hq (soQz h) h) rfl rfl w
  | false =>
   obtain ⟨i,a',b'⟩:=x
   obtain ⟨a,rfl⟩:=fp_of a' hx.1.1 hx.1.2
   obtain ⟨b,rfl⟩:=fp_of b' hx.2.1 hx.2.2
   cases hr:(Pp.fin a b).B with
   | false=>exact spec_yes (so2s i a b p hp hB h hr) rfl rfl w
   | true =>
    cases a with
    | no=>cases hr
    | ok x hx'=>cases b with
     | no=>cases hr
     | ok y hy'=>exact spec_yes (so3s i (z:=⟨x,y⟩) ⟨hx',hy'⟩ p hp hB h) rfl rfl w
end Go.Proofs.YtdiemgedlfnlmaaGreat.Y
end
section
namespace Go.Proofs.YtdiemgedlfnlmaaGreat
open Go.ChangeShapes Go.WideShapes Go.ChangeAt Go.RowKit
theorem cellsOf_bool:Tryz.prog.cellsOf 4=1:=by kernel_rfl
theorem cellsOf_string:Tryz.prog.cellsOf 9=1:=by kernel_rfl
theorem cellsOf_whole:Tryz.prog.cellsOf 23=2:=by kernel_rfl
theorem cellsOf_frac:Tryz.prog.cellsOf 25=4:=by kernel_rfl
section
variable {H:Type} {enc:TypeId × Value→H} {w:World} {base:Nat} {spare:Nat→Bool} {held:Bool}
set_option maxRecDepth 100000 in
theorem trod_whole {fuel:Nat} {cs:List Value} {x:DataW H × List MemPlace} (h:DataW.trod enc Tryz.prog w base spare held fuel 23 cs=some x) :
  ∃ (b:Bool) (s:ByteArray),cs=[.bool b,.string s]∧s.size≤maxLen:=by
 obtain ⟨xs,n,rfl,_,hlen,hxl,hf⟩:=DataW.trod_struct Tryz.underlying23 h
 rw [cellsOf_whole] at hlen
 have hx0:xs[0]?=some (xs[0]'(by rw [hxl]; decide)):=List.getElem?_eq_getElem _
 have hx1:xs[1]?=some (xs[1]'(by rw [hxl]; decide)):=List.getElem?_eq_getElem _
 have h0:DataW.trod enc Tryz.prog w base spare held n 4 ((cs.drop 0).take (Tryz.prog.cellsOf 4))=some _:=(hf 0 _ rfl).trans hx0
 have h1:DataW.trod enc Tryz.prog w base spare held n 9 ((cs.drop 1).take (Tryz.prog.cellsOf 9))=some _:=(hf 1 _ rfl).trans hx1
 rw [cellsOf_bool] at h0
 rw [cellsOf_string] at h1
 match cs,hlen with
 | [a,b],_ =>
  obtain ⟨p,e0,_⟩:=DataW.trod_bool Tryz.underlying4 h0
  obtain ⟨s,e1,_,hs⟩:=DataW.trod_string Tryz.underlying9 h1
  cases e0
  cases e1
  exact ⟨p,s,rfl,hs⟩
set_option maxRecDepth 100000 in
theorem trod_frac {fuel:Nat} {cs:List Value} {x:DataW H × List MemPlace} (h:DataW.trod enc Tryz.prog w base spare held fuel 25 cs=some x) :
  ∃ (b c:Bool) (s t:ByteArray),cs=[.bool b,.string s,.bool c,.string t]∧s.size≤maxLen∧t.size≤maxLen:=by
 obtain ⟨xs,n,rfl,_,hlen,hxl,hf⟩:=DataW.trod_struct Tryz.underlying25 h
 rw [cellsOf_frac] at hlen
 have hx0:xs[0]?=some (xs[0]'(by rw [hxl]; decide)):=List.getElem?_eq_getElem _
 have hx1:xs[1]?=some (xs[1]'(by rw [hxl]; decide)):=List.getElem?_eq_getElem _
 have h0:DataW.trod enc Tryz.prog w base spare held n 23 ((cs.drop 0).take (Tryz.prog.cellsOf 23))=some _:=(hf 0 _ rfl).trans hx0
 have h1:DataW.trod enc Tryz.prog w base spare held n 23 ((cs.drop 2).take (Tryz.prog.cellsOf 23))=some _:=(hf 1 _ rfl).trans hx1
 rw [cellsOf_whole] at h0 h1
 match cs,hlen with
 | [a,b,c,d],_ =>
  obtain ⟨p,s,e0,hs⟩:=trod_whole h0
  obtain ⟨q,t,e1,ht⟩:=trod_whole h1
  cases e0
  cases e1
  exact ⟨p,q,s,t,rfl,hs,ht⟩
end
end Go.Proofs.YtdiemgedlfnlmaaGreat
end
section
namespace Go.Proofs.YtdiemgedlfnlmaaGreat
open Go Go.ChangeShapes Go.WideShapes Go.ChangeAt Go.RowKit
theorem cellsOf_gauss:Tryz.prog.cellsOf 37=8:=by kernel_rfl
theorem cellsOf_point:Tryz.prog.cellsOf 39=9:=by kernel_rfl
theorem chunk {α:Type} (cs:List α) (a b:Nat):cs.drop a=(cs.drop a).take b++cs.drop (a+b):=by
 rw [← List.drop_drop,List.take_append_drop]
def R4.ok (x:R4):Prop:=x.s.size≤maxLen∧x.t.size≤maxLen
section
variable {H:Type} {enc:TypeId × Value→H} {w:World} {base:Nat} {spare:Nat→Bool} {held:Bool}
theorem trod_r4 {fuel:Nat} {cs:List Value} {x:DataW H × List MemPlace} (h:DataW.trod enc Tryz.prog w base spare held fuel 25 cs=some x):∃ r:R4,cs=r.V∧r.ok:=by
 obtain ⟨b,c,s,t,e,h1,h2⟩:=trod_frac h
 exact ⟨⟨b,s,c,t⟩,e,h1,h2⟩
set_option maxRecDepth 100000 in
theorem trod_gauss {fuel:Nat} {cs:List Value} {x:DataW H × List MemPlace} (h:DataW.trod enc Tryz.prog w base spare held fuel 37 cs=some x):∃ r s:R4,cs=r.V++s.V∧r.ok∧s.ok:=by
 obtain ⟨xs,n,rfl,_,hlen,hxl,hf⟩:=DataW.trod_struct Tryz.underlying37 h
 rw [cellsOf_gauss] at hlen
 have hx0:xs[0]?=some (xs[0]'(by rw [hxl]; decide)):=List.getElem?_eq_getElem _
 have hx1:xs[1]?=some (xs[1]'(by rw [hxl]; decide)):=List.getElem?_eq_getElem _
 have h0:DataW.trod enc Tryz.prog w base spare held n 25 ((cs.drop 0).take (Tryz.prog.cellsOf 25))=some _:=(hf 0 _ rfl).trans hx0
 have h1:DataW.trod enc Tryz.prog w base spare held n 25 ((cs.drop 4).take (Tryz.prog.cellsOf 25))=some _:=(hf 1 _ rfl).trans hx1
 rw [cellsOf_frac] at h0 h1
 obtain ⟨r,e0,k0⟩:=trod_r4 h0
 obtain ⟨s,e1,k1⟩:=trod_r4 h1
 refine ⟨r,s,?_,k0,k1⟩
 have:=chunk cs 0 4
 rw [e0,List.drop_zero] at this
 rw [this,chunk cs (0+4) 4,e1,List.drop_of_length_le (by omega),List.append_nil]
set_option maxRecDepth 100000 in
theorem trod_point {fuel:Nat} {cs:List Value} {x:DataW H × List MemPlace} (h:DataW.trod enc Tryz.prog w base spare held fuel 39 cs=some x):∃ (i:Bool) (r s:R4),cs=.bool i::(r.V++s.V)∧r.ok∧s.ok:=by
 obtain ⟨xs,n,rfl,_,hlen,hxl,hf⟩:=DataW.trod_struct Tryz.underlying39 h
 rw [cellsOf_point] at hlen
 have hx0:xs[0]?=some (xs[0]'(by rw [hxl]; decide)):=List.getElem?_eq_getElem _
 have hx1:xs[1]?=some (xs[1]'(by rw [hxl]; decide)):=List.getElem?_eq_getElem _
 have h0:DataW.trod enc Tryz.prog w base spare held n 4 ((cs.drop 0).take (Tryz.prog.cellsOf 4))=some _:=(hf 0 _ rfl).trans hx0
 have h1:DataW.trod enc Tryz.prog w base spare held n 37 ((cs.drop 1).take (Tryz.prog.cellsOf 37))=some _:=(hf 1 _ rfl).trans hx1
 rw [cellsOf_bool] at h0
 rw [cellsOf_gauss] at h1
 obtain ⟨r,s,e1,k1⟩:=trod_gauss h1
 have e3:cs.drop 1=r.V++s.V:=by
  have:=chunk cs 1 8
  rw [e1] at this
  rw [this,List.drop_of_length_le (show cs.length≤1+8 by omega),List.append_nil]
 have e2:cs=cs.take 1++(r.V++s.V):=by rw [← e3,List.take_append_drop]
 match hc:(cs.take 1),(show (cs.take 1).length=1 by rw [List.length_take]; omega) with
 | [a],_ =>
  rw [List.drop_zero,hc] at h0
  obtain ⟨i,e0,_⟩:=DataW.trod_bool Tryz.underlying4 h0
  refine ⟨i,r,s,?_,k1⟩
  rw [hc] at e2
  rw [e2]
  cases e0
  rfl
end
section
variable {H:Type} {enc:TypeId × Value→H} {w:World} {base:Nat} {spare:Nat→Bool} {held:Bool}
set_option maxRecDepth 100000 in
theorem open_pt {r:Reach} {b0:Nat} {v:Value} {d:DataW H} {p:List MemPlace} (hv:Value.okWide Tryz.prog w r b0 39 v) (h:DataW.Trod enc Tryz.prog w base spare held 39 v d p) :
  ∃ (i:Bool) (x y:R4),v=.agg (.bool i::(x.V++y.V)).toArray∧x.ok∧y.ok:=by
 obtain ⟨cs,rfl,hsz⟩:=okWide_struct Tryz.underlying39 hv
 obtain ⟨fuel,hf⟩:=h
 obtain ⟨l⟩:=cs
 obtain ⟨i,a,b,rfl,hh⟩:=trod_point hf
 exact ⟨i,a,b,rfl,hh⟩
end
end Go.Proofs.YtdiemgedlfnlmaaGreat
end
