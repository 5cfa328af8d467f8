/- LgF, MoB, Wks, MkB, Row, Osp, GsB, CiA, CiB, GsC, GsD, Nst, CiC, CiD, CiE, G1, MtA, MtD, SyM, MtH, LsQ, MaA, MaB, SyO, MaC, MaD. -/
import Derived.Deep.MidRow
import Derived.Test.YtbepimnlleilfaaGreatNk13
set_option linter.unnecessarySimpa false
set_option linter.unusedVariables false
set_option linter.unusedSimpArgs false
section
namespace Go.Proofs.YtbepimnlleilfaaGreat.Y
open Go Go.RowKit
set_option maxRecDepth 100000
def yvT (d1 d2:Nat) (s:ByteArray):(k:T3)→k.at s→List (Ev Tryz.prog)
 | .lo,h=>[.eqv d1 (.bool (decide ((120:Int)<(s.size:Int)))) (.bool false) (zQ8 h)]
 | .mid,h=>[.eqv d1 (.bool (decide ((120:Int)<(s.size:Int)))) (.bool true) (zQ8 h.1),.eqv d2 (.bool (decide ((s.size:Int)≤1024))) (.bool true) (zQ8 h.2)]
 | .hi,h=>[.eqv d1 (.bool (decide ((120:Int)<(s.size:Int)))) (.bool true) (zQ8 h.1),.eqv d2 (.bool (decide ((s.size:Int)≤1024))) (.bool false) (zQ8 h.2)]
def yvT2 (x:R4) (a b:T3) (ha:a.at x.s) (hb:b.at x.t):List (Ev Tryz.prog):=yvT 32 38 x.s a ha++(bif a.yes then [] else yvT 45 51 x.t b hb)
abbrev lgA:List SV:=[.one (.c (.b (.s 0 0 4 4)))]
noncomputable abbrev lgN:Nat:=qV4 Tryz.f139 lgA
abbrev lI (i:Int):SV:=.one (.c (.b (.v (.int .i64 i))))
abbrev lB (b:Bool):SV:=.one (.c (.b (.v (.bool b))))
section
variable (x0 y0 x1 y1 x2 y2 x3 y3:R4) (T:TypeId)
def lgCells:List Lf:=rL x0++rL y0++rL x1++rL y1++rL x2++rL y2++rL x3++rL y3
noncomputable def cOut (i:Int) (ev:List (Ev Tryz.prog)):Cf Tryz.prog:=mkC Tryz.prog lgN 1 [(0,.one (.c (.b (.s 0 0 4 4)))),(3,lI i)] [.box (lgCells x0 y0 x1 y1 x2 y2 x3 y3) T,.dead] ev
noncomputable def cIn (i j:Int) (x y:R4) (ev:List (Ev Tryz.prog)):Cf Tryz.prog:=mkC Tryz.prog lgN 1 [(0,.one (.c (.b (.s 0 0 4 4)))),(3,lI i),(22,.one (.c (.b (.s 2 0 2 2)))),(23,lI 2),(24,lI j)] [.box (lgCells x0 y0 x1 y1 x2 y2 x3 y3) T,.dead,.box (rL x++rL y) 25] ev
variable (β0:Env) (w:World) (r:Bool)
abbrev lgH (C:Cf Tryz.prog) (i:Nat):Prop:=HdOk Tryz.prog 1 lgN w.heap.size w β0 (bodyPost Tryz.prog Tryz.f139 (Said Tryz.prog Tryz.f139 1 (lB r) [] β0 w)) C (lpAt Tryz.f139 i)
theorem lg_end:lgH β0 w false (cOut x0 y0 x1 y1 x2 y2 x3 y3 T 4 []) 0:=qJ9 (Ns:=[(4,13)]) (m:=200) hmA (fun β=>qQ0 (by kernel_rfl))
theorem lg_out0 (h:lgH β0 w r (cIn x0 y0 x1 y1 x2 y2 x3 y3 T 0 0 x0 y0 []) 1):lgH β0 w r (cOut x0 y0 x1 y1 x2 y2 x3 y3 T 0 [.cut]) 0:=qQ7 (Ns:=[(4,13)]) (m:=200) [] [0,0,2] hmA (by kernel_rfl) (fun β=>qQ0 (by kernel_rfl)) h
theorem lg_back0 (h:lgH β0 w r (cOut x0 y0 x1 y1 x2 y2 x3 y3 T 1 []) 0):lgH β0 w r (cIn x0 y0 x1 y1 x2 y2 x3 y3 T 0 2 x0 y0 [.cut]) 1:=qQ7 (Ns:=[(4,13)]) (m:=200) [] [0,0] hmA (by kernel_rfl) (fun β=>qQ0 (by kernel_rfl)) h
theorem lg_no00 {a b:T3} (ha:a.at x0.s) (hb:b.at x0.t) (h:(a.yes||b.yes)=false) (k:lgH β0 w r (cIn x0 y0 x1 y1 x2 y2 x3 y3 T 0 1 x0 y0 []) 1):lgH β0 w r (cIn x0 y0 x1 y1 x2 y2 x3 y3 T 0 0 x0 y0 (yvT2 x0 a b ha hb++[.cut])) 1:=by
 cases a
 · cases b
   · exact qQ7 (Ns:=[(4,13)]) (m:=200) [] [0,0,2] hmA (by kernel_rfl) (fun β=>qQ0 (by kernel_rfl)) k
   · cases h
   · exact qQ7 (Ns:=[(4,13)]) (m:=200) [] [0,0,2] hmA (by kernel_rfl) (fun β=>qQ0 (by kernel_rfl)) k
 · cases h
 · cases b
   · exact qQ7 (Ns:=[(4,13)]) (m:=200) [] [0,0,2] hmA (by kernel_rfl) (fun β=>qQ0 (by kernel_rfl)) k
   · cases h
   · exact qQ7 (Ns:=[(4,13)]) (m:=200) [] [0,0,2] hmA (by kernel_rfl) (fun β=>qQ0 (by kernel_rfl)) k
theorem lg_yes00 {a b:T3} (ha:a.at x0.s) (hb:b.at x0.t) (h:(a.yes||b.yes)=true):lgH β0 w true (cIn x0 y0 x1 y1 x2 y2 x3 y3 T 0 0 x0 y0 (yvT2 x0 a b ha hb)) 1:=by
 cases a
 · cases b
   · cases h
   · exact qJ9 (Ns:=[(4,13)]) (m:=200) hmA (fun β=>qQ0 (by kernel_rfl))
   · cases h
 · exact qJ9 (Ns:=[(4,13)]) (m:=200) hmA (fun β=>qQ0 (by kernel_rfl))
 · cases b
   · cases h
   · exact qJ9 (Ns:=[(4,13)]) (m:=200) hmA (fun β=>qQ0 (by kernel_rfl))
   · cases h
theorem lg_no01 {a b:T3} (ha:a.at y0.s) (hb:b.at y0.t) (h:(a.yes||b.yes)=false) (k:lgH β0 w r (cIn x0 y0 x1 y1 x2 y2 x3 y3 T 0 2 x0 y0 []) 1):lgH β0 w r (cIn x0 y0 x1 y1 x2 y2 x3 y3 T 0 1 x0 y0 (yvT2 y0 a b ha hb++[.cut])) 1:=by
 cases a
 · cases b
   · exact qQ7 (Ns:=[(4,13)]) (m:=200) [] [0,0,2] hmA (by kernel_rfl) (fun β=>qQ0 (by kernel_rfl)) k
   · cases h
   · exact qQ7 (Ns:=[(4,13)]) (m:=200) [] [0,0,2] hmA (by kernel_rfl) (fun β=>qQ0 (by kernel_rfl)) k
 · cases h
 · cases b
   · exact qQ7 (Ns:=[(4,13)]) (m:=200) [] [0,0,2] hmA (by kernel_rfl) (fun β=>qQ0 (by kernel_rfl)) k
   · cases h
   · exact qQ7 (Ns:=[(4,13)]) (m:=200) [] [0,0,2] hmA (by kernel_rfl) (fun β=>qQ0 (by kernel_rfl)) k
theorem lg_yes01 {a b:T3} (ha:a.at y0.s) (hb:b.at y0.t) (h:(a.yes||b.yes)=true):lgH β0 w true (cIn x0 y0 x1 y1 x2 y2 x3 y3 T 0 1 x0 y0 (yvT2 y0 a b ha hb)) 1:=by
 cases a
 · cases b
   · cases h
   · exact qJ9 (Ns:=[(4,13)]) (m:=200) hmA (fun β=>qQ0 (by kernel_rfl))
   · cases h
 · exact qJ9 (Ns:=[(4,13)]) (m:=200) hmA (fun β=>qQ0 (by kernel_rfl))
 · cases b
   · cases h
   · exact qJ9 (Ns:=[(4,13)]) (m:=200) hmA (fun β=>qQ0 (by kernel_rfl))
   · cases h
theorem lg_out1 (h:lgH β0 w r (cIn x0 y0 x1 y1 x2 y2 x3 y3 T 1 0 x1 y1 []) 1):lgH β0 w r (cOut x0 y0 x1 y1 x2 y2 x3 y3 T 1 [.cut]) 0:=qQ7 (Ns:=[(4,13)]) (m:=200) [] [0,0,2] hmA (by kernel_rfl) (fun β=>qQ0 (by kernel_rfl)) h
theorem lg_back1 (h:lgH β0 w r (cOut x0 y0 x1 y1 x2 y2 x3 y3 T 2 []) 0):lgH β0 w r (cIn x0 y0 x1 y1 x2 y2 x3 y3 T 1 2 x1 y1 [.cut]) 1:=qQ7 (Ns:=[(4,13)]) (m:=200) [] [0,0] hmA (by kernel_rfl) (fun β=>qQ0 (by kernel_rfl)) h
theorem lg_no10 {a b:T3} (ha:a.at x1.s) (hb:b.at x1.t) (h:(a.yes||b.yes)=false) (k:lgH β0 w r (cIn x0 y0 x1 y1 x2 y2 x3 y3 T 1 1 x1 y1 []) 1):lgH β0 w r (cIn x0 y0 x1 y1 x2 y2 x3 y3 T 1 0 x1 y1 (yvT2 x1 a b ha hb++[.cut])) 1:=by
 cases a
 · cases b
   · exact qQ7 (Ns:=[(4,13)]) (m:=200) [] [0,0,2] hmA (by kernel_rfl) (fun β=>qQ0 (by kernel_rfl)) k
   · cases h
   · exact qQ7 (Ns:=[(4,13)]) (m:=200) [] [0,0,2] hmA (by kernel_rfl) (fun β=>qQ0 (by kernel_rfl)) k
 · cases h
 · cases b
   · exact qQ7 (Ns:=[(4,13)]) (m:=200) [] [0,0,2] hmA (by kernel_rfl) (fun β=>qQ0 (by kernel_rfl)) k
   · cases h
   · exact qQ7 (Ns:=[(4,13)]) (m:=200) [] [0,0,2] hmA (by kernel_rfl) (fun β=>qQ0 (by kernel_rfl)) k
theorem lg_yes10 {a b:T3} (ha:a.at x1.s) (hb:b.at x1.t) (h:(a.yes||b.yes)=true):lgH β0 w true (cIn x0 y0 x1 y1 x2 y2 x3 y3 T 1 0 x1 y1 (yvT2 x1 a b ha hb)) 1:=by
 cases a
 · cases b
   · cases h
   · exact qJ9 (Ns:=[(4,13)]) (m:=200) hmA (fun β=>qQ0 (by kernel_rfl))
   · cases h
 · exact qJ9 (Ns:=[(4,13)]) (m:=200) hmA (fun β=>qQ0 (by kernel_rfl))
 · cases b
   · cases h
   · exact qJ9 (Ns:=[(4,13)]) (m:=200) hmA (fun β=>qQ0 (by kernel_rfl))
   · cases h
theorem lg_no11 {a b:T3} (ha:a.at y1.s) (hb:b.at y1.t) (h:(a.yes||b.yes)=false) (k:lgH β0 w r (cIn x0 y0 x1 y1 x2 y2 x3 y3 T 1 2 x1 y1 []) 1):lgH β0 w r (cIn x0 y0 x1 y1 x2 y2 x3 y3 T 1 1 x1 y1 (yvT2 y1 a b ha hb++[.cut])) 1:=by
 cases a
 · cases b
   · exact qQ7 (Ns:=[(4,13)]) (m:=200) [] [0,0,2] hmA (by kernel_rfl) (fun β=>qQ0 (by kernel_rfl)) k
   · cases h
   · exact qQ7 (Ns:=[(4,13)]) (m:=200) [] [0,0,2] hmA (by kernel_rfl) (fun β=>qQ0 (by kernel_rfl)) k
 · cases h
 · cases b
   · exact qQ7 (Ns:=[(4,13)]) (m:=200) [] [0,0,2] hmA (by kernel_rfl) (fun β=>qQ0 (by kernel_rfl)) k
   · cases h
   · exact qQ7 (Ns:=[(4,13)]) (m:=200) [] [0,0,2] hmA (by kernel_rfl) (fun β=>qQ0 (by kernel_rfl)) k
theorem lg_yes11 {a b:T3} (ha:a.at y1.s) (hb:b.at y1.t) (h:(a.yes||b.yes)=true):lgH β0 w true (cIn x0 y0 x1 y1 x2 y2 x3 y3 T 1 1 x1 y1 (yvT2 y1 a b ha hb)) 1:=by
 cases a
 · cases b
   · cases h
   · exact qJ9 (Ns:=[(4,13)]) (m:=200) hmA (fun β=>qQ0 (by kernel_rfl))
   · cases h
 · exact qJ9 (Ns:=[(4,13)]) (m:=200) hmA (fun β=>qQ0 (by kernel_rfl))
 · cases b
   · cases h
   · exact qJ9 (Ns:=[(4,13)]) (m:=200) hmA (fun β=>qQ0 (by kernel_rfl))
   · cases h
theorem lg_out2 (h:lgH β0 w r (cIn x0 y0 x1 y1 x2 y2 x3 y3 T 2 0 x2 y2 []) 1):lgH β0 w r (cOut x0 y0 x1 y1 x2 y2 x3 y3 T 2 [.cut]) 0:=qQ7 (Ns:=[(4,13)]) (m:=200) [] [0,0,2] hmA (by kernel_rfl) (fun β=>qQ0 (by kernel_rfl)) h
theorem lg_back2 (h:lgH β0 w r (cOut x0 y0 x1 y1 x2 y2 x3 y3 T 3 []) 0):lgH β0 w r (cIn x0 y0 x1 y1 x2 y2 x3 y3 T 2 2 x2 y2 [.cut]) 1:=qQ7 (Ns:=[(4,13)]) (m:=200) [] [0,0] hmA (by kernel_rfl) (fun β=>qQ0 (by kernel_rfl)) h
theorem lg_no20 {a b:T3} (ha:a.at x2.s) (hb:b.at x2.t) (h:(a.yes||b.yes)=false) (k:lgH β0 w r (cIn x0 y0 x1 y1 x2 y2 x3 y3 T 2 1 x2 y2 []) 1):lgH β0 w r (cIn x0 y0 x1 y1 x2 y2 x3 y3 T 2 0 x2 y2 (yvT2 x2 a b ha hb++[.cut])) 1:=by
 cases a
 · cases b
   · exact qQ7 (Ns:=[(4,13)]) (m:=200) [] [0,0,2] hmA (by kernel_rfl) (fun β=>qQ0 (by kernel_rfl)) k
   · cases h
   · exact qQ7 (Ns:=[(4,13)]) (m:=200) [] [0,0,2] hmA (by kernel_rfl) (fun β=>qQ0 (by kernel_rfl)) k
 · cases h
 · cases b
   · exact qQ7 (Ns:=[(4,13)]) (m:=200) [] [0,0,2] hmA (by kernel_rfl) (fun β=>qQ0 (by kernel_rfl)) k
   · cases h
   · exact qQ7 (Ns:=[(4,13)]) (m:=200) [] [0,0,2] hmA (by kernel_rfl) (fun β=>qQ0 (by kernel_rfl)) k
theorem lg_yes20 {a b:T3} (ha:a.at x2.s) (hb:b.at x2.t) (h:(a.yes||b.yes)=true):lgH β0 w true (cIn x0 y0 x1 y1 x2 y2 x3 y3 T 2 0 x2 y2 (yvT2 x2 a b ha hb)) 1:=by
 cases a
 · cases b
   · cases h
   · exact qJ9 (Ns:=[(4,13)]) (m:=200) hmA (fun β=>qQ0 (by kernel_rfl))
   · cases h
 · exact qJ9 (Ns:=[(4,13)]) (m:=200) hmA (fun β=>qQ0 (by kernel_rfl))
 · cases b
   · cases h
   · exact qJ9 (Ns:=[(4,13)]) (m:=200) hmA (fun β=>qQ0 (by kernel_rfl))
   · cases h
theorem lg_no21 {a b:T3} (ha:a.at y2.s) (hb:b.at y2.t) (h:(a.yes||b.yes)=false) (k:lgH β0 w r (cIn x0 y0 x1 y1 x2 y2 x3 y3 T 2 2 x2 y2 []) 1):lgH β0 w r (cIn x0 y0 x1 y1 x2 y2 x3 y3 T 2 1 x2 y2 (yvT2 y2 a b ha hb++[.cut])) 1:=by
 cases a
 · cases b
   · exact qQ7 (Ns:=[(4,13)]) (m:=200) [] [0,0,2] hmA (by kernel_rfl) (fun β=>qQ0 (by kernel_rfl)) k
   · cases h
   · exact qQ7 (Ns:=[(4,13)]) (m:=200) [] [0,0,2] hmA (by kernel_rfl) (fun β=>qQ0 (by kernel_rfl)) k
 · cases h
 · cases b
   · exact qQ7 (Ns:=[(4,13)]) (m:=200) [] [0,0,2] hmA (by kernel_rfl) (fun β=>qQ0 (by kernel_rfl)) k
   · cases h
   · exact qQ7 (Ns:=[(4,13)]) (m:=200) [] [0,0,2] hmA (by kernel_rfl) (fun β=>qQ0 (by kernel_rfl)) k
theorem lg_yes21 {a b:T3} (ha:a.at y2.s) (hb:b.at y2.t) (h:(a.yes||b.yes)=true):lgH β0 w true (cIn x0 y0 x1 y1 x2 y2 x3 y3 T 2 1 x2 y2 (yvT2 y2 a b ha hb)) 1:=by
 cases a
 · cases b
   · cases h
   · exact qJ9 (Ns:=[(4,13)]) (m:=200) hmA (fun β=>qQ0 (by kernel_rfl))
   · cases h
 · exact qJ9 (Ns:=[(4,13)]) (m:=200) hmA (fun β=>qQ0 (by kernel_rfl))
 · cases b
   · cases h
   · exact qJ9 (Ns:=[(4,13)]) (m:=200) hmA (fun β=>qQ0 (by kernel_rfl))
   · cases h
theorem lg_out3 (h:lgH β0 w r (cIn x0 y0 x1 y1 x2 y2 x3 y3 T 3 0 x3 y3 []) 1):lgH β0 w r (cOut x0 y0 x1 y1 x2 y2 x3 y3 T 3 [.cut]) 0:=qQ7 (Ns:=[(4,13)]) (m:=200) [] [0,0,2] hmA (by kernel_rfl) (fun β=>qQ0 (by kernel_rfl)) h
theorem lg_back3 (h:lgH β0 w r (cOut x0 y0 x1 y1 x2 y2 x3 y3 T 4 []) 0):lgH β0 w r (cIn x0 y0 x1 y1 x2 y2 x3 y3 T 3 2 x3 y3 [.cut]) 1:=qQ7 (Ns:=[(4,13)]) (m:=200) [] [0,0] hmA (by kernel_rfl) (fun β=>qQ0 (by kernel_rfl)) h
theorem lg_no30 {a b:T3} (ha:a.at x3.s) (hb:b.at x3.t) (h:(a.yes||b.yes)=false) (k:lgH β0 w r (cIn x0 y0 x1 y1 x2 y2 x3 y3 T 3 1 x3 y3 []) 1):lgH β0 w r (cIn x0 y0 x1 y1 x2 y2 x3 y3 T 3 0 x3 y3 (yvT2 x3 a b ha hb++[.cut])) 1:=by
 cases a
 · cases b
   · exact qQ7 (Ns:=[(4,13)]) (m:=200) [] [0,0,2] hmA (by kernel_rfl) (fun β=>qQ0 (by kernel_rfl)) k
   · cases h
   · exact qQ7 (Ns:=[(4,13)]) (m:=200) [] [0,0,2] hmA (by kernel_rfl) (fun β=>qQ0 (by kernel_rfl)) k
 · cases h
 · cases b
   · exact qQ7 (Ns:=[(4,13)]) (m:=200) [] [0,0,2] hmA (by kernel_rfl) (fun β=>qQ0 (by kernel_rfl)) k
   · cases h
   · exact qQ7 (Ns:=[(4,13)]) (m:=200) [] [0,0,2] hmA (by kernel_rfl) (fun β=>qQ0 (by kernel_rfl)) k
theorem lg_yes30 {a b:T3} (ha:a.at x3.s) (hb:b.at x3.t) (h:(a.yes||b.yes)=true):lgH β0 w true (cIn x0 y0 x1 y1 x2 y2 x3 y3 T 3 0 x3 y3 (yvT2 x3 a b ha hb)) 1:=by
 cases a
 · cases b
   · cases h
   · exact qJ9 (Ns:=[(4,13)]) (m:=200) hmA (fun β=>qQ0 (by kernel_rfl))
   · cases h
 · exact qJ9 (Ns:=[(4,13)]) (m:=200) hmA (fun β=>qQ0 (by kernel_rfl))
 · cases b
   · cases h
   · exact qJ9 (Ns:=[(4,13)]) (m:=200) hmA (fun β=>qQ0 (by kernel_rfl))
   · cases h
theorem lg_no31 {a b:T3} (ha:a.at y3.s) (hb:b.at y3.t) (h:(a.yes||b.yes)=false) (k:lgH β0 w r (cIn x0 y0 x1 y1 x2 y2 x3 y3 T 3 2 x3 y3 []) 1):lgH β0 w r (cIn x0 y0 x1 y1 x2 y2 x3 y3 T 3 1 x3 y3 (yvT2 y3 a b ha hb++[.cut])) 1:=by
 cases a
 · cases b
   · exact qQ7 (Ns:=[(4,13)]) (m:=200) [] [0,0,2] hmA (by kernel_rfl) (fun β=>qQ0 (by kernel_rfl)) k
   · cases h
   · exact qQ7 (Ns:=[(4,13)]) (m:=200) [] [0,0,2] hmA (by kernel_rfl) (fun β=>qQ0 (by kernel_rfl)) k
 · cases h
 · cases b
   · exact qQ7 (Ns:=[(4,13)]) (m:=200) [] [0,0,2] hmA (by kernel_rfl) (fun β=>qQ0 (by kernel_rfl)) k
   · cases h
   · exact qQ7 (Ns:=[(4,13)]) (m:=200) [] [0,0,2] hmA (by kernel_rfl) (fun β=>qQ0 (by kernel_rfl)) k
theorem lg_yes31 {a b:T3} (ha:a.at y3.s) (hb:b.at y3.t) (h:(a.yes||b.yes)=true):lgH β0 w true (cIn x0 y0 x1 y1 x2 y2 x3 y3 T 3 1 x3 y3 (yvT2 y3 a b ha hb)) 1:=by
 cases a
 · cases b
   · cases h
   · exact qJ9 (Ns:=[(4,13)]) (m:=200) hmA (fun β=>qQ0 (by kernel_rfl))
   · cases h
 · exact qJ9 (Ns:=[(4,13)]) (m:=200) hmA (fun β=>qQ0 (by kernel_rfl))
 · cases b
   · cases h
   · exact qJ9 (Ns:=[(4,13)]) (m:=200) hmA (fun β=>qQ0 (by kernel_rfl))
   · cases h
theorem HdOk.ev {P:Program} {m0 n B0:Nat} {w0:World} {β0:Env} {Q:Exit→Act→World→Prop} {u:Nat} {sl:List (Nat × SV)} {ob:List Ob} {ev ev':List (Ev P)} {p:Code × List Kf} (h:HdOk P m0 n B0 w0 β0 Q (mkC P n u sl ob ev) p):HdOk P m0 n B0 w0 β0 Q (mkC P n u sl ob ev') p :=
 fun β a w hβ hs=>h β a w hβ (hs.ev ev)
end
section
variable {x0 y0 x1 y1 x2 y2 x3 y3:R4} {T:TypeId}
structure LgF (x:R4) (r:Bool):Prop where
 is:∃ a b:T3,a.at x.s∧b.at x.t∧(a.yes||b.yes)=r
theorem LgF.all (x:R4):∃ r,LgF x r:=by
 obtain ⟨a,ha⟩:=T3.all x.s
 obtain ⟨b,hb⟩:=T3.all x.t
 exact ⟨_,⟨a,b,ha,hb,rfl⟩⟩
theorem long4_hd {rx0 ry0 rx1 ry1 rx2 ry2 rx3 ry3:Bool} (hx0:LgF x0 rx0) (hy0:LgF y0 ry0) (hx1:LgF x1 rx1) (hy1:LgF y1 ry1) (hx2:LgF x2 rx2) (hy2:LgF y2 ry2) (hx3:LgF x3 rx3) (hy3:LgF y3 ry3) (β0:Env) (w:World):lgH β0 w (rx0||(ry0||(rx1||(ry1||(rx2||(ry2||(rx3||ry3))))))) (cOut x0 y0 x1 y1 x2 y2 x3 y3 T 0 []) 0:=by
 refine HdOk.ev (lg_out0 x0 y0 x1 y1 x2 y2 x3 y3 T β0 w _ ?_)
 obtain ⟨ax0,bx0,hax0,hbx0,ex0⟩:=hx0.is
 cases rx0 with
 | true=>exact HdOk.ev (lg_yes00 x0 y0 x1 y1 x2 y2 x3 y3 T β0 w hax0 hbx0 ex0)
 | false =>
 refine HdOk.ev (lg_no00 x0 y0 x1 y1 x2 y2 x3 y3 T β0 w _ hax0 hbx0 ex0 ?_)
 obtain ⟨ay0,by0,hay0,hby0,ey0⟩:=hy0.is
 cases ry0 with
 | true=>exact HdOk.ev (lg_yes01 x0 y0 x1 y1 x2 y2 x3 y3 T β0 w hay0 hby0 ey0)
 | false =>
 refine HdOk.ev (lg_no01 x0 y0 x1 y1 x2 y2 x3 y3 T β0 w _ hay0 hby0 ey0 ?_)
 refine HdOk.ev (lg_back0 x0 y0 x1 y1 x2 y2 x3 y3 T β0 w _ ?_)
 refine HdOk.ev (lg_out1 x0 y0 x1 y1 x2 y2 x3 y3 T β0 w _ ?_)
 obtain ⟨ax1,bx1,hax1,hbx1,ex1⟩:=hx1.is
 cases rx1 with
 | true=>exact HdOk.ev (lg_yes10 x0 y0 x1 y1 x2 y2 x3 y3 T β0 w hax1 hbx1 ex1)
 | false =>
 refine HdOk.ev (lg_no10 x0 y0 x1 y1 x2 y2 x3 y3 T β0 w _ hax1 hbx1 ex1 ?_)
 obtain ⟨ay1,by1,hay1,hby1,ey1⟩:=hy1.is
 cases ry1 with
 | true=>exact HdOk.ev (lg_yes11 x0 y0 x1 y1 x2 y2 x3 y3 T β0 w hay1 hby1 ey1)
 | false =>
 refine HdOk.ev (lg_no11 x0 y0 x1 y1 x2 y2 x3 y3 T β0 w _ hay1 hby1 ey1 ?_)
 refine HdOk.ev (lg_back1 x0 y0 x1 y1 x2 y2 x3 y3 T β0 w _ ?_)
 refine HdOk.ev (lg_out2 x0 y0 x1 y1 x2 y2 x3 y3 T β0 w _ ?_)
 obtain ⟨ax2,bx2,hax2,hbx2,ex2⟩:=hx2.is
 cases rx2 with
 | true=>exact HdOk.ev (lg_yes20 x0 y0 x1 y1 x2 y2 x3 y3 T β0 w hax2 hbx2 ex2)
 | false =>
 refine HdOk.ev (lg_no20 x0 y0 x1 y1 x2 y2 x3 y3 T β0 w _ hax2 hbx2 ex2 ?_)
 obtain ⟨ay2,by2,hay2,hby2,ey2⟩:=hy2.is
 cases ry2 with
 | true=>exact HdOk.ev (lg_yes21 x0 y0 x1 y1 x2 y2 x3 y3 T β0 w hay2 hby2 ey2)
 | false =>
 refine HdOk.ev (lg_no21 x0 y0 x1 y1 x2 y2 x3 y3 T β0 w _ hay2 hby2 ey2 ?_)
 refine HdOk.ev (lg_back2 x0 y0 x1 y1 x2 y2 x3 y3 T β0 w _ ?_)
 refine HdOk.ev (lg_out3 x0 y0 x1 y1 x2 y2 x3 y3 T β0 w _ ?_)
 obtain ⟨ax3,bx3,hax3,hbx3,ex3⟩:=hx3.is
 cases rx3 with
 | true=>exact HdOk.ev (lg_yes30 x0 y0 x1 y1 x2 y2 x3 y3 T β0 w hax3 hbx3 ex3)
 | false =>
 refine HdOk.ev (lg_no30 x0 y0 x1 y1 x2 y2 x3 y3 T β0 w _ hax3 hbx3 ex3 ?_)
 obtain ⟨ay3,by3,hay3,hby3,ey3⟩:=hy3.is
 cases ry3 with
 | true=>exact HdOk.ev (lg_yes31 x0 y0 x1 y1 x2 y2 x3 y3 T β0 w hay3 hby3 ey3)
 | false =>
 refine HdOk.ev (lg_no31 x0 y0 x1 y1 x2 y2 x3 y3 T β0 w _ hay3 hby3 ey3 ?_)
 refine HdOk.ev (lg_back3 x0 y0 x1 y1 x2 y2 x3 y3 T β0 w _ ?_)
 exact lg_end x0 y0 x1 y1 x2 y2 x3 y3 T β0 w
theorem long4_ok {rx0 ry0 rx1 ry1 rx2 ry2 rx3 ry3:Bool} (hx0:LgF x0 rx0) (hy0:LgF y0 ry0) (hx1:LgF x1 rx1) (hy1:LgF y1 ry1) (hx2:LgF x2 rx2) (hy2:LgF y2 ry2) (hx3:LgF x3 rx3) (hy3:LgF y3 ry3) (β:Env) (w:World) (hh:(Ob.box (lgCells x0 y0 x1 y1 x2 y2 x3 y3) T).holds β w (β 0)) :
  Calls Tryz.prog 139 #[.slice (some ⟨(β 0).b,0,none⟩) 4 4] w fun e w'=>e=.returned (.bool (rx0||(ry0||(rx1||(ry1||(rx2||(ry2||(rx3||ry3))))))))∧Below w.heap.size w w':=by
 refine (sx_cut (P:=Tryz.prog) lgA [.box (lgCells x0 y0 x1 y1 x2 y2 x3 y3) T] [.cut] [] [(4,13)] 200 (lB (rx0||(ry0||(rx1||(ry1||(rx2||(ry2||(rx3||ry3)))))))) [] Tryz.func139 hmA (u:=1) (sl:=[(0,.one (.c (.b (.s 0 0 4 4)))),(3,lI 0)]) (ob:=[.box (lgCells x0 y0 x1 y1 x2 y2 x3 y3) T,.dead]) (σ:=[0,0]) (p':=lpAt Tryz.f139 0) (by kernel_rfl) (fun β=>qQ0 (by kernel_rfl)) (by kernel_rfl) (by kernel_rfl) β w (fun k o ho=>?_) (long4_hd hx0 hy0 hx1 hy1 hx2 hy2 hx3 hy3 β w)).mono ?_
 · cases k with
   | zero=>simp only [List.getElem?_cons_zero] at ho; obtain rfl:=Option.some.inj ho; exact hh
   | succ k=>simp at ho
 · rintro e w' ⟨β',q,obj,e1,rfl,e2,e3,e4,g⟩
   exact ⟨rfl,g.bel⟩
end
abbrev OFN:List (Nat × Nat):=[(9,5007004005008),(15,16),(20,11)]
abbrev a3 (p q r:Rw):SV:=.one (.a (lsX (p.C++q.C++r.C)))
abbrev tB (t:Bool):SV:=.one (.c (.b (.v (.bool t))))
abbrev nI (k:Int):SC:=.c (.b (.v (.int .i64 k)))
section
variable {p q r s u v:Pt}
def of6E (z:P6 p q r s u v FitP):List (Ev Tryz.prog):=[(sSpotP p z.1).e,(sSpotP s z.2.2.2.1).e,(sSpotP q z.2.1).e,(sSpotP u z.2.2.2.2.1).e,(sSpotP r z.2.2.1).e,(sSpotP v z.2.2.2.2.2).e]
def twE {t1 t2 t3 t4 t5 t6:Bool} (h1:ptB p q=t1) (h2:ptB s u=t2) (h3:ptB q r=t3) (h4:ptB u v=t4) (h5:ptB r p=t5) (h6:ptB v s=t6):List (Ev Tryz.prog) :=
 eqEvPt h1::(bif t1 then [] else eqEvPt h2::(bif t2 then [] else eqEvPt h3::(bif t3 then [] else eqEvPt h4::(bif t4 then [] else eqEvPt h5::(bif t5 then [] else [eqEvPt h6])))))
set_option maxHeartbeats 4000000 in
def sOfTwin (z:P6 p q r s u v FitP) (t:Bool) {t1 t2 t3 t4 t5 t6:Bool} (h1:ptB p q=t1) (h2:ptB s u=t2) (h3:ptB q r=t3) (h4:ptB u v=t4) (h5:ptB r p=t5) (h6:ptB v s=t6) (h:(t1||t2||t3||t4||t5||t6)=true):Spec Tryz.prog :=
 ⟨47,Tryz.call47,[a3 p.w q.w r.w,a3 s.w u.w v.w,tB t],[],.tup [mob0,nI 181],[],fun β w hh=>by
  cases t1
  · cases t2
    · cases t3
      · cases t4
        · cases t5
          · cases t6
            · cases h
            · exact qQ1 (evs:=of6E z++twE h1 h2 h3 h4 h5 h6) (Ns:=OFN) (m:=1200) Tryz.func47 hmA (fun β=>by kernel_rfl) (by kernel_rfl) β w hh
          · exact qQ1 (evs:=of6E z++twE h1 h2 h3 h4 h5 h6) (Ns:=OFN) (m:=1200) Tryz.func47 hmA (fun β=>by kernel_rfl) (by kernel_rfl) β w hh
        · exact qQ1 (evs:=of6E z++twE h1 h2 h3 h4 h5 h6) (Ns:=OFN) (m:=1200) Tryz.func47 hmA (fun β=>by kernel_rfl) (by kernel_rfl) β w hh
      · exact qQ1 (evs:=of6E z++twE h1 h2 h3 h4 h5 h6) (Ns:=OFN) (m:=1200) Tryz.func47 hmA (fun β=>by kernel_rfl) (by kernel_rfl) β w hh
    · exact qQ1 (evs:=of6E z++twE h1 h2 h3 h4 h5 h6) (Ns:=OFN) (m:=1200) Tryz.func47 hmA (fun β=>by kernel_rfl) (by kernel_rfl) β w hh
  · exact qQ1 (evs:=of6E z++twE h1 h2 h3 h4 h5 h6) (Ns:=OFN) (m:=1200) Tryz.func47 hmA (fun β=>by kernel_rfl) (by kernel_rfl) β w hh,by kernel_rfl⟩
abbrev KFb:Nat:=1024
theorem of1z (z:P6 p q r s u v FitP) (h:Six p q r s u v):MSz (dsz (csz KFb)) (mcha p q r):=mcha_sz z.1.sz z.2.1.sz z.2.2.1.sz (by decide) h.r1
theorem of2z (z:P6 p q r s u v FitP) (h:Six p q r s u v):MSz (dsz (csz KFb)) (mcha s u v):=mcha_sz z.2.2.2.1.sz z.2.2.2.2.1.sz z.2.2.2.2.2.sz (by decide) h.r2
theorem of3z (z:P6 p q r s u v FitP) (t:Bool) (h:Six p q r s u v):MSz (dsz (bsz 1 (dsz (csz KFb)))) (mcmp (mid t) (mcha p q r)):=mcmp_sz (mid_sz t (k:=1)) (of1z z h) (h.r3 t)
theorem of4z (z:P6 p q r s u v FitP) (h:Six p q r s u v):MSz (dsz (dsz (csz KFb))) (minv (mcha s u v)):=minv_sz (of2z z h) h.r4
theorem of5z (z:P6 p q r s u v FitP) (t:Bool) (h:Six p q r s u v):MSz KM (mof p q r s u v t):=(mcmp_sz (of4z z h) (of3z z t h) (h.r5 t)).mono (by decide)
theorem mof_nrm (t:Bool) (h:Six p q r s u v):Nrm (mof p q r s u v t):=Nrm.cmp (h.r4.mnorm) (h.r3 t).mnorm
set_option maxHeartbeats 4000000 in
noncomputable def sOf3 (z:P6 p q r s u v FitP) (t:Bool) (h:Six p q r s u v):Spec Tryz.prog :=
 Spec.auto Tryz.call47 [a3 p.w q.w r.w,a3 s.w u.w v.w,tB t] [] (.tup [.a (lsX (maC (mof p q r s u v t))),nI (maK (mof p q r s u v t))]) []
  (of6E z++twE (ptB_ne' h.a) (ptB_ne' h.d) (ptB_ne' h.b) (ptB_ne' h.e) (ptB_ne' h.c) (ptB_ne' h.f) ++
   [sStill.e,(sChaR (z.2.2.2.1.sz.mono (by decide)) (z.2.2.2.2.1.sz.mono (by decide)) (z.2.2.2.2.2.sz.mono (by decide)) h.r2).e,(sUndoR ((of2z z h).mono (by decide)) h.r2.mnorm).e,
    (sChaR (z.1.sz.mono (by decide)) (z.2.1.sz.mono (by decide)) (z.2.2.1.sz.mono (by decide)) h.r1).e,(sBehR ((mid_sz t (k:=1)).mono (by decide)) ((of1z z h).mono (by decide)) (h.r3 t)).e,
    (sBehR ((of4z z h).mono (by decide)) ((of3z z t h).mono (by decide)) (h.r5 t)).e,(sToldN (of5z z t h) (mof_nrm t h)).e]) OFN 1200 Tryz.func47 hmA (by kernel_rfl) (fun β=>by kernel_rfl)
end
end Go.Proofs.YtbepimnlleilfaaGreat.Y
end
section
namespace Go.Proofs.YtbepimnlleilfaaGreat
theorem jz_det:qQ6 (mdet ⟨gint 0 0,gint 2 0,gint 2 0,gint 0 0,false⟩)=false:=by kernel_rfl
def mJ:MQ:=⟨gint 0 0,gint 1 0,gint 1 0,gint 0 0,false⟩
theorem j_norm:mnorm ⟨gint 0 0,gint 2 0,gint 2 0,gint 0 0,false⟩=mJ:=mq_ext (zX9 (by kernel_rfl) (by kernel_rfl)) (zX9 (by kernel_rfl) (by kernel_rfl)) (zX9 (by kernel_rfl) (by kernel_rfl)) (zX9 (by kernel_rfl) (by kernel_rfl)) rfl
theorem j_inv:minv mJ=mJ:=mq_ext (zX9 (by kernel_rfl) (by kernel_rfl)) (zX9 (by kernel_rfl) (by kernel_rfl)) (zX9 (by kernel_rfl) (by kernel_rfl)) (zX9 (by kernel_rfl) (by kernel_rfl)) rfl
theorem j_fit:FitM mJ:=⟨qV7 (by decide) (by decide),qV7 (by decide) (by decide),qV7 (by decide) (by decide),qV7 (by decide) (by decide)⟩
theorem z2_fit:FitM ⟨gint 0 0,gint 2 0,gint 2 0,gint 0 0,false⟩:=⟨qV7 (by decide) (by decide),qV7 (by decide) (by decide),qV7 (by decide) (by decide),qV7 (by decide) (by decide)⟩
def gH:GQ:=⟨Rat.divInt 0 1,Rat.divInt (-1) 2⟩
theorem j_half:msend mJ (.fin (gint 0 2)) false=.fin gH:=congrArg Pt.fin (zX9 (by kernel_rfl) (by kernel_rfl))
theorem j_msD:qQ6 (msD mJ (.fin (gint 0 2)))=false:=by kernel_rfl
theorem h_parts:gH.re.num=0∧gH.re.den=1∧gH.im.num = -1∧gH.im.den=2:=by decide +kernel
theorem h_fit:FitP (.fin gH):=fit_small (by rw [h_parts.1]; decide) (by rw [h_parts.2.1]; decide) (by rw [h_parts.2.2.1]; decide) (by rw [h_parts.2.2.2]; decide)
theorem h_cells:paC (.fin gH)=[.b (.v (.bool false)),.b (.v (.bool false)),.b (.v (.string ⟨#[]⟩)),.b (.v (.bool false)),.b (.v (.string ⟨#[1]⟩)),.b (.v (.bool true)),.b (.v (.string ⟨#[1]⟩)),.b (.v (.bool false)),.b (.v (.string ⟨#[2]⟩))]:=by
 rw [paC_raw,(pa_fit h_fit).1,(pa_fit h_fit).2.1,(pa_fit h_fit).2.2]
 show rawC false (fR gH.re) (fR gH.im)=_
 unfold fR
 rw [h_parts.1,h_parts.2.1,h_parts.2.2.1,h_parts.2.2.2,show (0:Int).natAbs=0 from rfl,show (-1:Int).natAbs=1 from rfl,mag_0,mag_1,mag_2]
 rfl
def mK:MQ:=⟨gint 0 0,gint (-2) 0,gint 1 0,gint (-2) 0,false⟩
theorem k_of:mof (pI 0 0) (pI 1 0) (pI 2 0) (pI 1 0) (pI 2 0) .inf false=mK:=mq_ext (zX9 (by kernel_rfl) (by kernel_rfl)) (zX9 (by kernel_rfl) (by kernel_rfl)) (zX9 (by kernel_rfl) (by kernel_rfl)) (zX9 (by kernel_rfl) (by kernel_rfl)) rfl
theorem k_fit:FitM mK:=⟨qV7 (by decide) (by decide),qV7 (by decide) (by decide),qV7 (by decide) (by decide),qV7 (by decide) (by decide)⟩
theorem k_six:Six (pI 0 0) (pI 1 0) (pI 2 0) (pI 1 0) (pI 2 0) .inf:=⟨pI_ne (by decide),pI_ne (by decide),pI_ne (by decide),pI_ne (by decide),(fun e=>by cases e),(fun e=>by cases e)⟩
theorem k_p6:P6 (pI 0 0) (pI 1 0) (pI 2 0) (pI 1 0) (pI 2 0) .inf FitP:=⟨pI_fit (by decide) (by decide),pI_fit (by decide) (by decide),pI_fit (by decide) (by decide),pI_fit (by decide) (by decide),pI_fit (by decide) (by decide),trivial⟩
end Go.Proofs.YtbepimnlleilfaaGreat
namespace Go.Proofs.YtbepimnlleilfaaGreat.Y
open Go Go.RowKit
set_option maxRecDepth 100000
theorem j_may:MayQ mJ:=⟨j_fit,by kernel_rfl,.inl (by kernel_rfl)⟩
abbrev q2 (n m:Int):Pt:=.fin (gint n m)
noncomputable def wkMake:Spec Tryz.prog :=
 (sMake (m:=⟨gint 0 0,gint 2 0,gint 2 0,gint 0 0,false⟩) z2_fit jz_det).as [gS (gint 0 0),gS (gint 2 0),gS (gint 2 0),gS (gint 0 0),tB' false] (.tup [.a (lsX (mC mJ)),nI' 0]) rfl (by
  show SV.tup [.a (lsX (maC (mnorm ⟨gint 0 0,gint 2 0,gint 2 0,gint 0 0,false⟩))),nI' (maK (mnorm ⟨gint 0 0,gint 2 0,gint 2 0,gint 0 0,false⟩))]=_
  rw [j_norm,(maC_fit j_fit).1,(maC_fit j_fit).2])
noncomputable def kwAt:Spec Tryz.prog :=
 (sAt j_may (p:=q2 0 2) (qV7 (by decide) (by decide)) j_msD).as [.one (.a (mCl mJ)),.one (.a (lsX (q2 0 2).w.C))] (.tup [.a [.b (.v (.bool false)),.b (.v (.bool false)),.b (.v (.string ⟨#[]⟩)),.b (.v (.bool false)),.b (.v (.string ⟨#[1]⟩)),.b (.v (.bool true)),.b (.v (.string ⟨#[1]⟩)),.b (.v (.bool false)),.b (.v (.string ⟨#[2]⟩))],nI' 0]) rfl (by
  show SV.tup [.a (lsX (paC (msend mJ (q2 0 2) false))),nI' (paK (msend mJ (q2 0 2) false))]=_
  rw [j_half,paK_fit h_fit,h_cells])
noncomputable def kInv:Spec Tryz.prog :=
 (sInv j_may).as [.one (.a (mCl mJ))] (.tup [.a (lsX (mC mJ)),nI' 0]) rfl (by
  show SV.tup [.a (lsX (maC (minv mJ))),nI' (maK (minv mJ))]=_
  rw [j_inv,(maC_fit j_fit).1,(maC_fit j_fit).2])
noncomputable def kOrd:Spec Tryz.prog:=sOrd2 j_may rfl (by kernel_rfl) (by kernel_rfl)
noncomputable def kOf:Spec Tryz.prog :=
 (sOf3 k_p6 false k_six).as [a3 (q2 0 0).w (q2 1 0).w (q2 2 0).w,a3 (q2 1 0).w (q2 2 0).w Pt.inf.w,tB false] (.tup [.a (lsX (mC mK)),nI' 0]) rfl (by
  show SV.tup [.a (lsX (maC (mof (q2 0 0) (q2 1 0) (q2 2 0) (q2 1 0) (q2 2 0) .inf false))),nI' (maK (mof (q2 0 0) (q2 1 0) (q2 2 0) (q2 1 0) (q2 2 0) .inf false))]=_
  rw [k_of,(maC_fit k_fit).1,(maC_fit k_fit).2])
def eqEvM1 (a a' b b' c c' d d':R4) (t:Bool):Ev Tryz.prog :=
 eqEv 48 (Go.Proofs.YtbepimnlleilfaaGreat.mV a a' b b' c c' d d' t) (Go.Proofs.YtbepimnlleilfaaGreat.mV a a' b b' c c' d d' t) true (by kernel_rfl) (fun w=>by
  have h:=eqM (w:=w) 9995 a a' b b' c c' d d' t a a' b b' c c' d d' t
  rw [geq_self,geq_self,geq_self,geq_self,show (t==t)=true from beq_self_eq_true t] at h
  exact h)
def eqMC1 (m:MQ):Ev Tryz.prog:=eqEvM1 (fR m.a.re) (fR m.a.im) (fR m.b.re) (fR m.b.im) (fR m.c.re) (fR m.c.im) (fR m.d.re) (fR m.d.im) m.t
noncomputable def nX (k:Int):Ev Tryz.prog:=(Spec.ofX (zQ2 k) rfl rfl).e
noncomputable def inX (n m:Int) (hn : -9223372036854775808≤n∧n≤9223372036854775807:=by decide) (hm : -9223372036854775808≤m∧m≤9223372036854775807:=by decide):Ev Tryz.prog:=(Spec.ofX (sIn8 n m hn hm) rfl rfl).e
noncomputable def atX (n m:Int) (hn : -9223372036854775808≤n∧n≤9223372036854775807:=by decide) (hm : -9223372036854775808≤m∧m≤9223372036854775807:=by decide):Ev Tryz.prog:=(Spec.ofX (sAt8 n m hn hm) rfl rfl).e
noncomputable def sWorks:Spec Tryz.prog :=
 Spec.auto Tryz.call26 [] [] (.one (.c (.b (.v (.bool true))))) []
  [inX 0 0,inX 2 0,inX 2 0,inX 0 0,wkMake.e,atX 0 2,kwAt.e,kInv.e,kOrd.e,atX 0 0,atX 1 0,atX 2 0,atX 1 0,atX 2 0,kOf.e,
   nX 0,nX 0,sTxtG.e,nX 0,eqMC1 mJ,nX 0,nX 0,inX 0 0,inX (-2) 0,inX 1 0,inX (-2) 0,eqMC1 mK] [(2,2007008),(6,48)] 1200 Tryz.func26 hmA (by kernel_rfl) (fun β=>by kernel_rfl)
end Go.Proofs.YtbepimnlleilfaaGreat.Y
end
section
namespace Go.Proofs.YtbepimnlleilfaaGreat.Y
open Go Go.RowKit
set_option maxRecDepth 100000
structure Lg4 (a b c d:Gn) (r:Bool):Prop where
 is:∃ x0 y0 x1 y1 x2 y2 x3 y3:Bool,LgF a.x x0∧LgF a.y y0∧LgF b.x x1∧LgF b.y y1∧LgF c.x x2∧LgF c.y y2∧LgF d.x x3∧LgF d.y y3∧(x0||(y0||(x1||(y1||(x2||(y2||(x3||y3)))))))=r
theorem Lg4.all (a b c d:Gn):∃ r,Lg4 a b c d r:=by
 obtain ⟨x0,h0⟩:=LgF.all a.x
 obtain ⟨y0,k0⟩:=LgF.all a.y
 obtain ⟨x1,h1⟩:=LgF.all b.x
 obtain ⟨y1,k1⟩:=LgF.all b.y
 obtain ⟨x2,h2⟩:=LgF.all c.x
 obtain ⟨y2,k2⟩:=LgF.all c.y
 obtain ⟨x3,h3⟩:=LgF.all d.x
 obtain ⟨y3,k3⟩:=LgF.all d.y
 exact ⟨_,⟨x0,y0,x1,y1,x2,y2,x3,y3,h0,k0,h1,k1,h2,k2,h3,k3,rfl⟩⟩
def sLong4 (T:TypeId) (a b c d:Gn) {r:Bool} (h:Lg4 a b c d r):BSpec Tryz.prog :=
 ⟨139,Tryz.call139,lgA,lgCells a.x a.y b.x b.y c.x c.y d.x d.y,T,.bool r,fun β w hh=>by
  obtain ⟨x0,y0,x1,y1,x2,y2,x3,y3,h0,k0,h1,k1,h2,k2,h3,k3,rfl⟩:=h.is
  exact long4_ok h0 k0 h1 k1 h2 k2 h3 k3 β w hh,by kernel_rfl,fun _=>rfl⟩
def adOf:SV→Nat × Nat
 | .one (.c (.b (.p k o)))=>(k,o)
 | _=>(0,0)
structure CSpec (P:Program) where
 f:FuncId
 en:qY8 P f
 args:List SV
 cs:List Lf
 t:TypeId
 res:SV
 news:List Thing
 ok:∀ β w,(Ob.box cs t).holds β w (β 0)→Calls P f (args.map (SV.den β)).toArray w fun e w'=>∃ xs:List Pl,(∀ x∈xs,∀ c,x.F c→w.heap.size≤c)∧e=.returned (res.den (extE β 1 xs))∧qZ0 w' news xs∧Below w.heap.size w w'
 cl:(cs.all (Lf.of fun _=>false)&&args.all (SV.of fun k=>Nat.beq k 0)&&res.of fun k=>Nat.ble 1 k&&Nat.blt k (1+news.length))=true
def bkOfY:List SV→Nat
 | []=>0
 | .one (.c (.b (.s k _ _ _)))::_=>k
 | _::r=>bkOfY r
def CSpec.e {P:Program} (S:CSpec P):Ev P:=.dyn (fun o _ _=>qY3 o) fun _ xs ob=>lit (bkOfY xs) fun i=>lit ob.length fun n =>
 .call S.f S.en (fun β=>(S.args.map (SV.den fun _=>β i)).toArray) [(i,.box S.cs S.t)] n (S.res.ren fun k=>n+(k-1)) S.news (fun β w h=>by
  have hc:=S.cl
  simp only [Bool.and_eq_true] at hc
  have h1:(β i).one∧w.heap[(β i).b]?=some (.cells (S.cs.map (Lf.den β)).toArray S.t (0,0)):=h _ (List.mem_singleton.2 rfl)
  refine (S.ok (fun _=>β i) w ?_).mono fun e w' ⟨xs,k1,k2,k3,k4⟩=>⟨xs,fun x hx c hc=>.inl (k1 x hx c hc),?_,k3,k4⟩
  · show (β i).one∧w.heap[(β i).b]?=some (.cells (S.cs.map (Lf.den fun _=>β i)).toArray S.t (0,0))
    rw [show S.cs.map (Lf.den fun _=>β i)=S.cs.map (Lf.den β) from List.map_congr_left fun x hx=>Lf.den_congr (q:=fun _=>false) (fun k hk=>by cases hk) x (List.all_eq_true.1 hc.1.1 x hx)]
    exact h1
  · rw [k2,SV.den_ren]
    congr 1
    refine SV.den_congr (fun k hk=>?_) _ hc.2
    have hlen:=(qX9 k3).1
    rw [Bool.and_eq_true,Nat.ble_eq,Nat.blt_eq] at hk
    have h5:k-1<xs.length:=by omega
    rw [qX7 (List.getElem?_eq_getElem h5)]
    have:=qX7 (β:=fun _=>β i) (n:=1) (List.getElem?_eq_getElem h5)
    rw [show 1+(k-1)=k by omega] at this
    exact this)
def Ob.ren (ρ:Nat→Nat):Ob→Ob
 | .box cs t=>.box (cs.map (Lf.ren ρ)) t
 | x=>x
def ptrB:Option Lf→Bool
 | some (.b (.z _ _))=>true
 | some (.b (.p _ _))=>true
 | some (.b (.v (.string _)))=>true
 | _=>false
def Ob.plainB:Ob→Bool
 | .box cs _=>Nat.blt cs.length 4||ptrB cs[1]?
 | .th _=>true
 | _=>false
theorem Ob.holds_ren {β:Env} {w:World} {g:Pl} {ρ:Nat→Nat}:∀ {o:Ob},o.plainB=true→(o.ren ρ).holds β w g→o.holds (fun k=>β (ρ k)) w g
 | .box cs t,_,h=>⟨h.1,by
  rw [h.2,List.map_map]
  rw [show (Lf.den β ∘ Lf.ren ρ)=Lf.den (fun k=>β (ρ k)) from funext fun x=>Lf.den_ren β ρ x]⟩
 | .th _,_,h=>h
theorem Ob.holds_cg {q:Nat→Bool} {β β':Env} {w:World} {g:Pl} (hq:∀ k,q k=true→β k=β' k):∀ {o:Ob},o.plainB=true→o.of q=true→o.holds β w g→o.holds β' w g
 | .box cs t,_,h,k=>⟨k.1,by rw [k.2,qV9 h (Lf.den_congr hq)]⟩
 | .th _,_,_,k=>k
structure OSpec (P:Program) where
 f:FuncId
 en:qY8 P f
 args:List SV
 obs:List Ob
 res:SV
 news:List Rat
 ok:∀ β w,(∀ (k:Nat) (o:Ob),obs[k]?=some o→o.holds β w (β k))→Calls P f (args.map (SV.den β)).toArray w fun e w'=>∃ xs:List Pl,(∀ x∈xs,∀ c,x.F c→w.heap.size≤c∨∃ i o,obs[i]?=some o∧o.isTh=true∧(β i).F c)∧e=.returned (res.den (extE β obs.length xs))∧qZ0 w' (news.map ratT) xs∧Below w.heap.size w w'
 closed:(args.all (SV.of fun k=>Nat.blt k obs.length)&&obs.all (fun x=>x.of (fun k=>Nat.blt k obs.length)&&x.plainB)&&res.of fun k=>Nat.blt k (obs.length+news.length))=true
def mtBox (o c:Ob):List (Nat × Nat):=match o,c with
 | .box xs _,.box ys _=>mtLs xs ys
 | _,_=>[]
def mtObs (obs ob:List Ob):List (Nat × Nat)→List (Nat × Nat)
 | []=>[]
 | (k,j)::r=>(match obs[k]?,ob[j]? with | some o,some c=>mtBox o c | _,_=>[])++mtObs obs ob r
def sigO {P:Program} (S:OSpec P) (xs:List SV) (ob:List Ob):List Nat:=sigL (mtVs S.args xs++mtObs S.obs ob (mtVs S.args xs)) 0 S.obs.length
def needsO (σ:List Nat) (ρ:Nat→Nat):List Ob→Nat→List (Nat × Ob)
 | [],_=>[]
 | o::r,k=>(lit (σ.getD k 0) fun j=>j,o.ren ρ)::needsO σ ρ r (k+1)
theorem needsO_at {σ:List Nat} {ρ:Nat→Nat}:∀ {l:List Ob} {i k:Nat} {o:Ob},l[k]?=some o→(σ.getD (i+k) 0,o.ren ρ)∈needsO σ ρ l i
 | x::r,i,0,o,h=>by
  simp only [List.getElem?_cons_zero] at h
  obtain rfl:=Option.some.inj h
  unfold needsO
  rw [qJ8]
  exact List.mem_cons_self ..
 | x::r,i,k+1,o,h=>by
  have:=needsO_at (σ:=σ) (ρ:=ρ) (l:=r) (i:=i+1) (k:=k) (o:=o) (by simpa using h)
  rw [show i+(k+1)=i+1+k by omega]
  exact List.mem_cons_of_mem _ this
def OSpec.ev {P:Program} (S:OSpec P) (σ:List Nat) (n:Nat) (hσ:(Nat.ble S.obs.length σ.length&&σ.all fun k=>Nat.blt k n)=true):Ev P :=
 .call S.f S.en (fun β=>(S.args.map (SV.den fun k=>β (atS σ S.obs.length n k))).toArray) (needsO σ (atS σ S.obs.length n) S.obs 0) n (S.res.ren (atS σ S.obs.length n)) (S.news.map ratT) fun β w h=>by
  have hc:=S.closed
  simp only [Bool.and_eq_true] at hc
  have hat:∀ k,k<S.obs.length→atS σ S.obs.length n k=σ.getD k 0:=fun k hk=>by
   unfold atS
   rw [qJ8,show Nat.blt k S.obs.length=true by rw [Nat.blt_eq]; exact hk,cond_true]
  have hat2:∀ k,¬ k<S.obs.length→atS σ S.obs.length n k=n+(k-S.obs.length):=fun k hk=>by
   unfold atS
   rw [qJ8,show Nat.blt k S.obs.length=false by rw [Bool.eq_false_iff,ne_eq,Nat.blt_eq]; exact hk,cond_false]
  rw [Bool.and_eq_true,Nat.ble_eq] at hσ
  have hsn:∀ k,k<S.obs.length→σ.getD k 0<n:=fun k hk=>by
   rw [List.getD_eq_getElem?_getD]
   cases hx:σ[k]? with
   | none=>rw [List.getElem?_eq_none_iff] at hx; omega
   | some y=>have:=List.all_eq_true.1 hσ.2 y (List.mem_of_getElem? hx); rw [Nat.blt_eq] at this; exact this
  have hq:∀ k,Nat.blt k S.obs.length=true→β (atS σ S.obs.length n k)=β (σ.getD k 0):=fun k hk=>by rw [hat k (by simpa [Nat.blt_eq] using hk)]
  have hargs:S.args.map (SV.den fun k=>β (atS σ S.obs.length n k))=S.args.map (SV.den fun k=>β (σ.getD k 0)):=List.map_congr_left fun x hx=>SV.den_congr hq _ (List.all_eq_true.1 hc.1.1 x hx)
  rw [hargs]
  refine (S.ok (fun k=>β (σ.getD k 0)) w fun k o hk=>?_).mono ?_
  · have ho:=List.all_eq_true.1 hc.1.2 o (List.mem_of_getElem? hk)
    rw [Bool.and_eq_true] at ho
    have hlt:k<S.obs.length:=(List.getElem?_eq_some_iff.1 hk).1
    have h1:(o.ren (atS σ S.obs.length n)).holds β w (β (σ.getD k 0)):=by
     have:=h _ (needsO_at (i:=0) hk)
     rwa [Nat.zero_add] at this
    exact Ob.holds_cg hq ho.2 ho.1 (Ob.holds_ren ho.2 h1)
  · rintro e w' ⟨xs,h1,rfl,h3,h4⟩
    refine ⟨xs,fun x hx c hc2=>?_,?_,h3,h4⟩
    · rcases h1 x hx c hc2 with h5 | ⟨i,o,h5,h6,h7⟩
      · exact .inl h5
      · refine .inr ⟨_,needsO_at (i:=0) h5,?_,?_⟩
        · cases o<;>first | exact h6 | cases h6
        · rw [Nat.zero_add]; exact h7
    · rw [SV.den_ren]
      congr 1
      refine SV.den_congr (fun k hk=>?_) _ hc.2
      have hlen:=(qX9 h3).1
      rw [List.length_map] at hlen
      rw [Nat.blt_eq] at hk
      by_cases hk2:k<S.obs.length
      · rw [hat k hk2,qK6 (β:=β) (n:=n) (k:=σ.getD k 0) (xs:=xs) (by have:=hsn k hk2; omega),qK6 (n:=S.obs.length) (k:=k) (xs:=xs) (by omega)]
      · rw [hat2 k hk2]
        have h5:k-S.obs.length<xs.length:=by omega
        rw [qX7 (List.getElem?_eq_getElem h5)]
        have:=qX7 (β:=fun k=>β (σ.getD k 0)) (n:=S.obs.length) (List.getElem?_eq_getElem h5)
        rw [show S.obs.length+(k-S.obs.length)=k by omega] at this
        exact this
def OSpec.e {P:Program} (S:OSpec P):Ev P:=.dyn (fun o _ _=>qY3 o) fun _ xs ob =>
 lits (sigO S xs ob) fun σ=>lit ob.length fun n=>if h:(Nat.ble S.obs.length σ.length&&σ.all fun k=>Nat.blt k n)=true then S.ev σ n h else .eqv 0 undef undef rfl
theorem ptr_no_rat {w:World} {b:Nat} {cs:Array Value} {t:TypeId} {x:Rat} {q:Option Addr} (h:w.heap[b]?=some (.cells cs t (0,0))) (hq:cs[1]?=some (.pointer q)) (k:RatAt w b 0 x):False:=by
 obtain ⟨A,m,cap,_,h1,_⟩:=k.2.1.open_
 have h2:=cell_lay (o:=1) h hq
 rw [Nat.zero_add,h2] at h1
 cases h1
theorem str1_no_rat {w:World} {b:Nat} {cs:Array Value} {t:TypeId} {x:Rat} {q:ByteArray} (h:w.heap[b]?=some (.cells cs t (0,0))) (hq:cs[1]?=some (.string q)) (k:RatAt w b 0 x):False:=by
 obtain ⟨A,m,cap,_,h1,_⟩:=k.2.1.open_
 have h2:=cell_lay (o:=1) h hq
 rw [Nat.zero_add,h2] at h1
 cases h1
theorem small_no_rat {w:World} {b:Nat} {cs:Array Value} {t:TypeId} {x:Rat} (h:w.heap[b]?=some (.cells cs t (0,0))) (hs:cs.size<4) (k:RatAt w b 0 x):False:=by
 obtain ⟨cs',t',h1,_,h2⟩:=k.1
 rw [h] at h1
 obtain ⟨rfl,_,_⟩:=Obj.cells.inj (Option.some.inj h1)
 omega
def idxO (P:Program) (fn:Func) (args:List SV) (obs:List Ob) (evs:List (Ev P)) (Ns:List (Nat × Nat)) (m:Nat) (res:SV):List (Nat × Nat) :=
 match fn.body with
 | some c=>match fullS P fn args obs evs Ns m c with
  | some f=>match run1 P obs.length false (results fn (zJ6 idE f.sl (qV4 fn args))) f.q f.ob [] with
   | some ⟨v,_,_,_⟩=>mtR res (tag v)
   | none=>[]
  | none=>[]
 | none=>[]
def specO (P:Program) (fn:Func) (args:List SV) (obs:List Ob) (evs:List (Ev P)) (Ns:List (Nat × Nat)) (m:Nat) (res:SV) (news:List Rat) (idx:List Nat) (β:Env):Eqs :=
 allS P fn args obs evs Ns m (res.ren (backS obs.length idx)) (idx.zip (news.map fun x=>(ratT x).ob)) β
def specOA (P:Program) (fn:Func) (args:List SV) (obs:List Ob) (evs:List (Ev P)) (Ns:List (Nat × Nat)) (m:Nat) (res:SV) (news:List Rat) (β:Env):Eqs :=
 lits (sigL (idxO P fn args obs evs Ns m res) obs.length news.length) fun idx=>specO P fn args obs evs Ns m res news idx β
theorem newHold_rats {β:Env} {w:World}:∀ {idx:List Nat} {l:List Rat},idx.length=l.length→qX2 β w (idx.zip (l.map fun x=>(ratT x).ob))→qZ0 w (l.map ratT) (idx.map β)
 | [],[],_,_=>trivial
 | [],_::_,h,_=>by simp at h
 | _::_,[],h,_=>by simp at h
 | i::r,t::l,h,k=>⟨k (i,(ratT t).ob) (by simp),newHold_rats (by simpa using h) fun p hp=>k p (by simp only [List.map_cons,List.zip_cons_cons]; exact List.mem_cons_of_mem _ hp)⟩
theorem ospec_ok {P:Program} {f:FuncId} {fn:Func} {args:List SV} {obs:List Ob} {evs:List (Ev P)} {Ns:List (Nat × Nat)} {m:Nat} {res:SV} {news:List Rat} (hf:P.funcs[f]?=some fn) (hm:P.follows .mixedOrders=true)
  (h0:∀ β,(specOA P fn args obs evs Ns m res news β).map Prod.fst=(specOA P fn args obs evs Ns m res news β).map Prod.snd)
  (hB:(args.all (SV.of fun k=>Nat.blt k obs.length)&&obs.all (fun x=>x.of (fun k=>Nat.blt k obs.length)&&x.plainB)&&res.of fun k=>Nat.blt k (obs.length+news.length))=true)
  (β:Env) (w:World) (hh:∀ (k:Nat) (o:Ob),obs[k]?=some o→o.holds β w (β k)) :
  Calls P f (args.map (SV.den β)).toArray w fun e w'=>∃ xs:List Pl,(∀ x∈xs,∀ c,x.F c→w.heap.size≤c∨∃ i o,obs[i]?=some o∧o.isTh=true∧(β i).F c)∧e=.returned (res.den (extE β obs.length xs))∧qZ0 w' (news.map ratT) xs∧Below w.heap.size w w':=by
 obtain ⟨idx,hidx⟩:∃ idx,idx=sigL (idxO P fn args obs evs Ns m res) obs.length news.length:=⟨_,rfl⟩
 have hlen:idx.length=news.length:=by rw [hidx,sigL_len]
 have h:∀ β,(specO P fn args obs evs Ns m res news idx β).map Prod.fst=(specO P fn args obs evs Ns m res news idx β).map Prod.snd:=fun β=>by
  have:=h0 β
  unfold specOA at this
  rw [lits_eq,← hidx] at this
  exact this
 simp only [Bool.and_eq_true] at hB
 obtain ⟨⟨h1,h2⟩,h3⟩:=hB
 refine (sx (P:=P) args obs evs Ns m (res.ren (backS obs.length idx)) (idx.zip (news.map fun x=>(ratT x).ob)) hf hm (fun β=>qQ0 (h β)) h1
  (List.all_eq_true.2 fun x hx=>by
   have:=List.all_eq_true.1 h2 x hx
   rw [Bool.and_eq_true] at this ⊢
   refine ⟨this.1,?_⟩
   have h4:=this.2
   cases x<;>first | rfl | cases h4) β w hh).mono ?_
 rintro e w' ⟨β',q,obj,e1,rfl,e2,e4,e5,g⟩
 have hz:(idx.zip (news.map fun x=>(ratT x).ob)).map (fun p=>β' p.1)=idx.map β':=by
  rw [show (fun p:Nat × Ob=>β' p.1)=β' ∘ Prod.fst from rfl,← List.map_map,List.map_fst_zip (by rw [List.length_map]; omega)]
 refine ⟨idx.map β',fun x hx c hcF=>?_,?_,newHold_rats hlen e5,g.bel⟩
 · rw [← hz] at hx
   obtain ⟨p,hp,rfl⟩:=List.mem_map.1 hx
   rcases e4 p hp c hcF with h5 | ⟨i,h5,h6⟩
   · exact .inl h5
   · have ho:=List.getElem?_eq_getElem h5
     have hpl:=List.all_eq_true.1 h2 obs[i] (List.getElem_mem h5)
     rw [Bool.and_eq_true] at hpl
     have hho:=hh i _ ho
     generalize obs[i]=o at ho hpl hho
     cases o with
     | th D=>exact .inr ⟨i,_,ho,rfl,h6⟩
     | box cs t =>
      exfalso
      obtain ⟨hone,hheap⟩:=hho
      have hcb:=(hone.1 c).1 h6
      subst hcb
      obtain ⟨r,hr⟩:∃ r,p.2=(ratT r).ob:=by
       have:=(List.of_mem_zip hp).2
       obtain ⟨r,_,hr⟩:=List.mem_map.1 this
       exact ⟨r,hr.symm⟩
      have hD:=e5 p hp
      rw [hr] at hD
      obtain ⟨b,hb1,hb2⟩:PR r w' (β' p.1):=hD
      have hcb:=(hb1.2 _).1 hcF
      subst hcb
      have hw:w'.heap[(β i).b]?=some (.cells (cs.map (Lf.den β)).toArray t (0,0)):=by rw [g.bel.block _ (qX6 hheap)]; exact hheap
      have:=hpl.2
      unfold Ob.plainB at this
      rw [Bool.or_eq_true,Nat.blt_eq] at this
      rcases this with this | this
      · exact small_no_rat hw (by simpa using this) hb2
      · have hq:(∃ q,(cs.map (Lf.den β))[1]?=some (.pointer q))∨∃ q,(cs.map (Lf.den β))[1]?=some (.string q):=by
         rw [List.getElem?_map]
         unfold ptrB at this
         split at this
         · rename_i k j e; rw [e]; exact .inl ⟨_,rfl⟩
         · rename_i k j e; rw [e]; exact .inl ⟨_,rfl⟩
         · rename_i k e; rw [e]; exact .inr ⟨_,rfl⟩
         · cases this
        rcases hq with ⟨q,hq⟩ | ⟨q,hq⟩
        · exact ptr_no_rat hw (by simpa using hq) hb2
        · exact str1_no_rat hw (by simpa using hq) hb2
     | al r D=>cases hpl.2
     | pl n=>cases hpl.2
     | row cs t n sz=>cases hpl.2
     | ow D t=>cases hpl.2
     | dead=>cases hpl.2
 · rw [SV.den_ren]
   congr 1
   refine SV.den_congr (fun k hk=>?_) _ h3
   rw [Nat.blt_eq] at hk
   unfold backS
   rw [qJ8]
   by_cases hk2:k<obs.length
   · rw [show Nat.blt k obs.length=true by rw [Nat.blt_eq]; exact hk2,cond_true,qK6 (by omega)]
     exact e1 k hk2
   · rw [show Nat.blt k obs.length=false by rw [Bool.eq_false_iff,ne_eq,Nat.blt_eq]; exact hk2,cond_false]
     have h5:k-obs.length<idx.length:=by omega
     have:=qX7 (β:=β) (n:=obs.length) (xs:=idx.map β') (i:=k-obs.length) (x:=β' idx[k-obs.length]) (by simp [h5])
     rw [show obs.length+(k-obs.length)=k by omega] at this
     rw [this,List.getD_eq_getElem?_getD,List.getElem?_eq_getElem h5,Option.getD_some]
def OSpec.auto {P:Program} {f:FuncId} {fn:Func} (en:qY8 P f) (args:List SV) (obs:List Ob) (res:SV) (news:List Rat) (evs:List (Ev P)) (Ns:List (Nat × Nat)) (m:Nat) (hf:P.funcs[f]?=some fn) (hm:P.follows .mixedOrders=true)
  (hB:(args.all (SV.of fun k=>Nat.blt k obs.length)&&obs.all (fun x=>x.of (fun k=>Nat.blt k obs.length)&&x.plainB)&&res.of fun k=>Nat.blt k (obs.length+news.length))=true)
  (h:∀ β,(specOA P fn args obs evs Ns m res news β).map Prod.fst=(specOA P fn args obs evs Ns m res news β).map Prod.snd):OSpec P :=
 ⟨f,en,args,obs,res,news,ospec_ok hf hm h hB,hB⟩
abbrev gnS (a:Gn):SV:=.one (.a (rL a.x++rL a.y))
theorem _root_.Go.Proofs.YtbepimnlleilfaaGreat.FitG.gsz {z:GQ} (h:FitG z):GSz 1024 z:=⟨h.1.sz,h.2.sz⟩
abbrev KC:Nat:=1000000
structure RQ where
 a:Rat
 b:GQ
 c:Rat
structure RSz (k:Nat) (r:RQ):Prop where
 a:Sz k r.a
 b:GSz k r.b
 c:Sz k r.c
def rpow (r:RQ):Rat:=qW1 r.b-r.a*r.c
def rbyQ (i j:Bool) (r:RQ):Rat:=bif i then (bif j then r.b.im else r.b.re) else r.a
def rnm (r:RQ) (x:Rat):RQ:=⟨r.a*x⁻¹,gscale r.b x⁻¹,r.c*x⁻¹⟩
def FitC (m:RQ):Prop:=Fit m.a∧FitG m.b∧Fit m.c
section
variable {r:RQ} (h:RSz KC r) {i j:Bool} (hi:decide (r.a=0)=i) (hj:decide (r.b.re=0)=j) (h0:rbyQ i j r≠0)
include h hi hj h0
end
def rby (r:RQ):Rat:=rbyQ (decide (r.a=0)) (decide (r.b.re=0)) r
def rone (r:RQ):RQ:=rnm r (rby r)
inductive Fn where
 | ok (x:Rat) (h:Fit x)
 | no (f:Fr) (h:f.a.B=false)
def Fn.fr:Fn→Fr
 | .ok x h=>frX x h
 | .no f _=>f
def Fn.r (a:Fn):R4:=a.fr.r
def Fn.B:Fn→Bool
 | .ok ..=>true
 | .no ..=>false
theorem nat_sign {m:Int} {n:Nat} (h:m=(n:Int)):Value.bool (decide (m.sign<0))=.bool false:=by
 rw [h]
 cases n<;>rfl
abbrev half12:Rat:=Rat.divInt 1 2
theorem sz_half:Sz 8 half12:=sz_lit 1 2 (by decide) (by decide) (by decide)
abbrev i01:GQ:=⟨Rat.divInt 0 1,Rat.divInt 1 1⟩
end Go.Proofs.YtbepimnlleilfaaGreat.Y
end
section
namespace Go.Proofs.YtbepimnlleilfaaGreat
open Go.RowKit
theorem sz_half:Sz 1 (Rat.divInt 1 2):=qH0 (by decide) (sz_le.2 (by decide)) (sz_le.2 (by decide))
end Go.Proofs.YtbepimnlleilfaaGreat
end
section
namespace Go.Proofs.YtbepimnlleilfaaGreat.Y
open Go Go.RowKit
set_option maxRecDepth 100000
abbrev KD5:Nat:=5000
def sR3Small (n m:Int) (hn : -9223372036854775808≤n∧n≤9223372036854775807) (hm : -9223372036854775808≤m∧m≤9223372036854775807) (h0:m≠0) (sn:sz n≤1000000000) (sm:sz m≤1000000000):Spec Tryz.prog :=
 Spec.auto Tryz.call182 [.one (svI n),.one (svI m)] [] (.one (.a (fC (Rat.divInt n m)))) [] [eWOf n hn,eWOf m hm,eFOf sn sm h0] [] 400 Tryz.func182 hmA (by kernel_rfl) (fun β=>by kernel_rfl)
structure MayC (r:RQ):Prop where
 fit:FitC r
 pow:decide ((rpow r).num.sign≤0)=false
 one:rone r=r
def qH2 (a:Gn) {r:Bool} (h:a.B=r):Spec Tryz.prog :=
 (sR4May a.gp.a.a a.gp.b.a).as [gnS a] (tB' r) (by
  show [SV.one (.a (a.gp.a.a.C++a.gp.b.a.C))]=[SV.one (.a (rL a.gp.a.r++rL a.gp.b.r))]
  rw [show a.gp.a.a.C=rL a.gp.a.r from a.gp.a.e,show a.gp.b.a.C=rL a.gp.b.r from a.gp.b.e]) (congrArg tB' (a.gpB.trans h))
structure CkNo (l:List Lf):Prop where
 cl:l.all (Lf.of fun _=>false)=true
 prog:∀ (β:Env) (w:World),Calls Tryz.prog 68 (([.one (.a l)]:List SV).map (SV.den β)).toArray w fun e w'=>e=.returned (.int .i64 2)∧Below w.heap.size w w'
 ref:∀ (β:Env) (w:World),Calls Tryz.prog 67 (([.one (.a l)]:List SV).map (SV.den β)).toArray w fun e w'=>e=.returned (.int .i64 2)∧Below w.heap.size w w'
inductive Cp where
 | ok (r:RQ) (h:MayC r)
 | no (a b b' c:R4) (h:CkNo (rL a++(rL b++rL b')++rL c))
def Cp.B:Cp→Bool
 | .ok ..=>true
 | .no ..=>false
def Cp.a:Cp→R4
 | .ok r _=>fR r.a
 | .no a _ _ _ _=>a
abbrev fcS (x:Rat):SV:=.one (.a (fC x))
def Ob.renL (ρ:Nat→Nat):Ob→Ob
 | .box cs t=>.box (cs.map (Lf.ren ρ)) t
 | .row cs t n sz=>.row (cs.map (Lf.ren ρ)) t n sz
 | x=>x
theorem Ob.renL_holds {β:Env} {w:World} {g:Pl} {ρ:Nat→Nat}:∀ {o:Ob},(o.renL ρ).holds β w g↔o.holds (fun k=>β (ρ k)) w g
 | .box cs t=>by
  have h:(cs.map (Lf.ren ρ)).map (Lf.den β)=cs.map (Lf.den fun k=>β (ρ k)):=by
   rw [List.map_map]
   exact List.map_congr_left fun x _=>Lf.den_ren β ρ x
  show (g.one∧w.heap[g.b]?=some (.cells ((cs.map (Lf.ren ρ)).map (Lf.den β)).toArray t (0,0)))↔_
  rw [h]
  exact Iff.rfl
 | .row cs t n sz=>by
  have h:(cs.map (Lf.ren ρ)).map (Lf.den β)=cs.map (Lf.den fun k=>β (ρ k)):=by
   rw [List.map_map]
   exact List.map_congr_left fun x _=>Lf.den_ren β ρ x
  show (g.one∧∃ cur,w.heap[g.b]?=some (.cells cur t (0,0))∧(cs.map (Lf.ren ρ)).length=n*sz∧n≤g.c 0∧g.c 0≤maxLen∧cur.size=g.c 0*sz∧cur.toList.take (n*sz)=(cs.map (Lf.ren ρ)).map (Lf.den β))↔_
  rw [h,List.length_map]
  exact Iff.rfl
 | .th _=>Iff.rfl
 | .al _ _=>Iff.rfl
 | .pl _=>Iff.rfl
 | .ow _ _=>Iff.rfl
 | .dead=>Iff.rfl
structure MSpec (P:Program) where
 f:FuncId
 en:qY8 P f
 args:List SV
 obs:List Thing
 a:Ob
 b:Ob
 res:SV
 news:List Thing
 ok:∀ β w,(∀ (k:Nat) (t:Thing),obs[k]?=some t→t.D w (β k))→a.holds β w (β obs.length)→Calls P f (args.map (SV.den β)).toArray w fun e w'=>∃ xs:List Pl,qK2 β w obs.length xs∧e=.returned (res.den (extE β (obs.length+1) xs))∧qZ0 w' news xs∧b.holds (extE β (obs.length+1) xs) w' (β obs.length)∧TouchL w w' [(β obs.length).b]
 closed:(args.all (SV.of fun k=>Nat.blt k (obs.length+1))&&(a.of (fun k=>Nat.blt k (obs.length+1))&&(b.of (fun k=>Nat.blt k (obs.length+1+news.length))&&res.of fun k=>Nat.blt k (obs.length+1+news.length))))=true
def atM (σ:List Nat) (m n k:Nat):Nat:=lit (bif Nat.blt k (m+1) then σ.getD k 0 else n+(k-(m+1))) fun j=>j
def needsM (σ:List Nat):List Thing→Nat→List (Nat × Ob)
 | [],_=>[]
 | t::r,k=>lit (σ.getD k 0) fun j=>(j,t.ob)::needsM σ r (k+1)
theorem needsM_at {σ:List Nat}:∀ {l:List Thing} {i k:Nat} {t:Thing},l[k]?=some t→(σ.getD (i+k) 0,t.ob)∈needsM σ l i
 | x::r,i,0,t,h=>by
  simp only [List.getElem?_cons_zero] at h
  obtain rfl:=Option.some.inj h
  unfold needsM
  rw [qJ8]
  exact List.mem_cons_self ..
 | x::r,i,k+1,t,h=>by
  have:=needsM_at (σ:=σ) (l:=r) (i:=i+1) (k:=k) (t:=t) (by simpa using h)
  unfold needsM
  rw [qJ8,show i+(k+1)=i+1+k by omega]
  exact List.mem_cons_of_mem _ this
theorem Ob.holds_cgL {q:Nat→Bool} {β β':Env} {w:World} {g:Pl} (hq:∀ k,q k=true→β k=β' k) {o:Ob} (h:o.of q=true) (k:o.holds β w g):o.holds β' w g:=Ob.holds_congr hq o h k
def MSpec.ev {P:Program} (S:MSpec P) (σ:List Nat) (n:Nat) (hσ:(Nat.ble (S.obs.length+1) σ.length&&σ.all fun k=>Nat.blt k n)=true):Ev P :=
 .mut S.f S.en (fun β=>(S.args.map (SV.den fun k=>β (atM σ S.obs.length n k))).toArray) (needsM σ S.obs 0) [⟨lit (σ.getD S.obs.length 0) fun j=>j,S.a.renL (atM σ S.obs.length n),S.b.renL (atM σ S.obs.length n)⟩] n (S.res.ren (atM σ S.obs.length n)) S.news fun β w h hm=>by
  have hc:=S.closed
  simp only [Bool.and_eq_true] at hc
  obtain ⟨hc1,hc2,hc3,hc4⟩:=hc
  have hat:∀ k,k<S.obs.length+1→atM σ S.obs.length n k=σ.getD k 0:=fun k hk=>by
   unfold atM
   rw [qJ8,show Nat.blt k (S.obs.length+1)=true by rw [Nat.blt_eq]; exact hk,cond_true]
  have hat2:∀ k,¬ k<S.obs.length+1→atM σ S.obs.length n k=n+(k-(S.obs.length+1)):=fun k hk=>by
   unfold atM
   rw [qJ8,show Nat.blt k (S.obs.length+1)=false by rw [Bool.eq_false_iff,ne_eq,Nat.blt_eq]; exact hk,cond_false]
  rw [Bool.and_eq_true,Nat.ble_eq] at hσ
  have hsn:∀ k,k<S.obs.length+1→σ.getD k 0<n:=fun k hk=>by
   rw [List.getD_eq_getElem?_getD]
   cases hx:σ[k]? with
   | none=>rw [List.getElem?_eq_none_iff] at hx; omega
   | some y=>have:=List.all_eq_true.1 hσ.2 y (List.mem_of_getElem? hx); rw [Nat.blt_eq] at this; exact this
  have h1:=hm _ (List.mem_singleton.2 rfl)
  dsimp only at h1
  rw [qJ8] at h1
  have hγ:atM σ S.obs.length n S.obs.length=σ.getD S.obs.length 0:=hat _ (by omega)
  refine (S.ok (fun k=>β (atM σ S.obs.length n k)) w (fun k t hk=>?_) ?_).mono ?_
  · have hlt:k<S.obs.length:=(List.getElem?_eq_some_iff.1 hk).1
    have:=h _ (needsM_at (i:=0) hk)
    rw [Nat.zero_add] at this
    show t.D w (β (atM σ S.obs.length n k))
    rw [hat k (by omega)]
    exact this
  · show S.a.holds (fun k=>β (atM σ S.obs.length n k)) w (β (atM σ S.obs.length n S.obs.length))
    rw [hγ]
    exact Ob.renL_holds.1 h1
  · rintro e w' ⟨xs,k1,rfl,k3,k4,k5⟩
    replace k4:S.b.holds (extE (fun k=>β (atM σ S.obs.length n k)) (S.obs.length+1) xs) w' (β (atM σ S.obs.length n S.obs.length)):=k4
    replace k5:TouchL w w' [(β (atM σ S.obs.length n S.obs.length)).b]:=k5
    rw [hγ] at k4 k5
    have hlen:=(qX9 k3).1
    have hall:∀ k,Nat.blt k (S.obs.length+1+S.news.length)=true→extE (fun k=>β (atM σ S.obs.length n k)) (S.obs.length+1) xs k=extE β n xs (atM σ S.obs.length n k):=fun k hk=>by
     rw [Nat.blt_eq] at hk
     by_cases hk2:k<S.obs.length+1
     · have:=hsn k hk2
       rw [hat k hk2,qK6 (β:=β) (n:=n) (k:=σ.getD k 0) (xs:=xs) (by omega),qK6 (n:=S.obs.length+1) (k:=k) (xs:=xs) (by omega),hat k hk2]
     · rw [hat2 k hk2]
       have h5:k-(S.obs.length+1)<xs.length:=by omega
       rw [qX7 (List.getElem?_eq_getElem h5)]
       have:=qX7 (β:=fun k=>β (atM σ S.obs.length n k)) (n:=S.obs.length+1) (List.getElem?_eq_getElem h5)
       rw [show S.obs.length+1+(k-(S.obs.length+1))=k by omega] at this
       exact this
    refine ⟨xs,fun x hx c hc5=>?_,?_,k3,fun m hm2=>?_,?_⟩
    · rcases k1 x hx c hc5 with h5 | ⟨i,h5,h6⟩
      · exact .inl h5
      · refine .inr ⟨_,needsM_at (σ:=σ) (i:=0) (List.getElem?_eq_getElem h5),rfl,?_⟩
        rw [Nat.zero_add]
        have h7:(β (atM σ S.obs.length n i)).F c:=h6
        rw [hat i (by omega)] at h7
        exact h7
    · rw [SV.den_ren]
      congr 1
      exact SV.den_congr hall _ hc4
    · obtain rfl:=List.mem_singleton.1 hm2
      dsimp only
      rw [qJ8]
      exact Ob.renL_holds.2 (Ob.holds_cgL hall hc3 k4)
    · rw [List.map_cons,List.map_nil]
      dsimp only
      rw [qJ8]
      exact k5
def mtLay (o c:Ob):List (Nat × Nat):=match o,c with
 | .box xs _,.box ys _=>mtLs xs ys
 | .row xs _ _ _,.row ys _ _ _=>mtLs xs ys
 | _,_=>[]
def sigR {P:Program} (S:MSpec P) (xs:List SV) (ob:List Ob):List Nat :=
 sigL (mtVs S.args xs++(match ob[sigM (mtVs S.args xs) S.obs.length]? with | some c=>mtLay S.a c | none=>[])) 0 (S.obs.length+1)
def MSpec.e {P:Program} (S:MSpec P):Ev P:=.dyn (fun o _ _=>qY3 o) fun _ xs ob =>
 lits (sigR S xs ob) fun σ=>lit ob.length fun n=>if h:(Nat.ble (S.obs.length+1) σ.length&&σ.all fun k=>Nat.blt k n)=true then S.ev σ n h else .eqv 0 undef undef rfl
structure CRow (P:Program) where
 f:FuncId
 en:qY8 P f
 args:List SV
 cs:List Lf
 t:TypeId
 row:Ob
 res:SV
 news:List Thing
 ok:∀ β w,(Ob.box cs t).holds β w (β 0)→Calls P f (args.map (SV.den β)).toArray w fun e w'=>∃ (g:Pl) (xs:List Pl),(w.heap.size≤g.b∧(∀ x∈xs,∀ c,x.F c→w.heap.size≤c)∧∀ x∈xs,¬ x.F g.b)∧e=.returned (res.den (extE β 1 (g::xs)))∧row.holds (extE β 1 (g::xs)) w' g∧qZ0 w' news xs∧Below w.heap.size w w'
 cl:(cs.all (Lf.of fun _=>false)&&(args.all (SV.of fun k=>Nat.beq k 0)&&(row.of (fun k=>Nat.ble 1 k&&Nat.blt k (2+news.length))&&res.of fun k=>Nat.ble 1 k&&Nat.blt k (2+news.length))))=true
def bkOfZ:List SV→Nat
 | []=>0
 | .one (.c (.b (.s k _ _ _)))::_=>k
 | _::r=>bkOfZ r
def CRow.e {P:Program} (S:CRow P):Ev P:=.dyn (fun o _ _=>qY3 o) fun _ xs ob=>lit (bkOfZ xs) fun i=>lit ob.length fun n =>
 .own S.f S.en (fun β=>(S.args.map (SV.den fun _=>β i)).toArray) [(i,.box S.cs S.t)] n (S.row.renL fun k=>n+(k-1)) (S.res.ren fun k=>n+(k-1)) S.news (fun β w h=>by
  have hc:=S.cl
  simp only [Bool.and_eq_true] at hc
  obtain ⟨c1,c2,c3,c4⟩:=hc
  have h1:(β i).one∧w.heap[(β i).b]?=some (.cells (S.cs.map (Lf.den β)).toArray S.t (0,0)):=h _ (List.mem_singleton.2 rfl)
  refine (S.ok (fun _=>β i) w ?_).mono ?_
  · show (β i).one∧w.heap[(β i).b]?=some (.cells (S.cs.map (Lf.den fun _=>β i)).toArray S.t (0,0))
    rw [show S.cs.map (Lf.den fun _=>β i)=S.cs.map (Lf.den β) from List.map_congr_left fun x hx=>Lf.den_congr (q:=fun _=>false) (fun k hk=>by cases hk) x (List.all_eq_true.1 c1 x hx)]
    exact h1
  · rintro e w' ⟨g,xs,⟨k1,k2,k3⟩,rfl,k5,k6,k7⟩
    have hlen:=(qX9 k6).1
    have hall:∀ k,(Nat.ble 1 k&&Nat.blt k (2+S.news.length))=true→extE (fun _=>β i) 1 (g::xs) k=extE β n (g::xs) (n+(k-1)):=fun k hk=>by
     rw [Bool.and_eq_true,Nat.ble_eq,Nat.blt_eq] at hk
     have h5:k-1<(g::xs).length:=by rw [List.length_cons]; omega
     rw [qX7 (List.getElem?_eq_getElem h5)]
     have:=qX7 (β:=fun _=>β i) (n:=1) (List.getElem?_eq_getElem h5)
     rw [show 1+(k-1)=k by omega] at this
     exact this
    refine ⟨g,xs,⟨k1,fun x hx c hc=>.inl (k2 x hx c hc),k3⟩,?_,Ob.renL_holds.2 (Ob.holds_cgL hall c3 k5),k6,k7⟩
    rw [SV.den_ren]
    congr 1
    exact SV.den_congr hall _ c4)
structure RSpec (P:Program) where
 f:FuncId
 en:qY8 P f
 args:List SV
 src:Ob
 res:SV
 ok:∀ β w,src.holds β w (β 0)→Calls P f (args.map (SV.den β)).toArray w fun e w'=>e=.returned (res.den β)∧Below w.heap.size w w'
 cl:(src.of (fun _=>false)&&(args.all (SV.of fun k=>Nat.beq k 0)&&res.of fun k=>Nat.beq k 0))=true
def bkOfR:List SV→Nat
 | []=>0
 | .one (.c (.b (.r k _)))::_=>k
 | _::r=>bkOfR r
def RSpec.e {P:Program} (S:RSpec P):Ev P:=.dyn (fun o _ _=>qY3 o) fun _ xs ob=>lit (bkOfR xs) fun i=>lit ob.length fun n =>
 .call S.f S.en (fun β=>(S.args.map (SV.den fun _=>β i)).toArray) [(i,S.src)] n (S.res.ren fun _=>i) [] (fun β w h=>by
  have hc:=S.cl
  simp only [Bool.and_eq_true] at hc
  obtain ⟨c1,c2,c3⟩:=hc
  have h1:S.src.holds β w (β i):=h _ (List.mem_singleton.2 rfl)
  refine (S.ok (fun _=>β i) w (Ob.holds_congr (q:=fun _=>false) (fun k hk=>by cases hk) _ c1 h1)).mono fun e w' ⟨k1,k2⟩=>⟨[],(fun _ h=>by cases h),?_,trivial,k2⟩
  rw [k1,extE_nil,SV.den_ren])
abbrev PTT:TypeId:=61
structure RRow (P:Program) where
 f:FuncId
 en:qY8 P f
 args:List SV
 src:Ob
 row:Ob
 res:SV
 ok:∀ β w,src.holds β w (β 0)→Calls P f (args.map (SV.den β)).toArray w fun e w'=>∃ g:Pl,w.heap.size≤g.b∧e=.returned (res.den (fun _=>g))∧row.holds (fun _=>g) w' g∧Below w.heap.size w w'
 cl:(src.of (fun _=>false)&&(row.of (fun _=>false)&&(args.all (SV.of fun k=>Nat.beq k 0)&&res.of fun k=>Nat.beq k 0)))=true
def RRow.e {P:Program} (S:RRow P):Ev P:=.dyn (fun o _ _=>qY3 o) fun _ xs ob=>lit (bkOfR xs) fun i=>lit ob.length fun n =>
 .own S.f S.en (fun β=>(S.args.map (SV.den fun _=>β i)).toArray) [(i,S.src)] n S.row (S.res.ren fun _=>n) [] (fun β w h=>by
  have hc:=S.cl
  simp only [Bool.and_eq_true] at hc
  obtain ⟨c1,c2,c3,c4⟩:=hc
  have h1:S.src.holds β w (β i):=h _ (List.mem_singleton.2 rfl)
  refine (S.ok (fun _=>β i) w (Ob.holds_congr (q:=fun _=>false) (fun k hk=>by cases hk) _ c1 h1)).mono ?_
  rintro e w' ⟨g,k1,rfl,k3,k4⟩
  have hg:extE β n [g] n=g:=qX7 (i:=0) (xs:=[g]) rfl
  refine ⟨g,[],⟨k1,(fun _ h=>by cases h),(fun _ h=>by cases h)⟩,?_,Ob.holds_congr (q:=fun _=>false) (fun k hk=>by cases hk) _ c2 k3,trivial,k4⟩
  rw [SV.den_ren]
  congr 1
  exact SV.den_congr (q:=fun k=>Nat.beq k 0) (fun k _=>hg.symm) _ c4)
abbrev TPs:TypeId:=70
theorem tps_u:Tryz.prog.underlying TPs=some (.slice (Tryz.prog.elem TPs)):=by kernel_rfl
theorem tps_s:(Tryz.prog.info? (Tryz.prog.elem TPs)).map (·.size)=some 9:=by kernel_rfl
theorem tpt_d:((Tryz.prog.underlying PTT).map fun d=>d.isRow)=some true:=by kernel_rfl
noncomputable def tptD:TypeDesc:=(Tryz.prog.underlying PTT).getD (.slice 0)
theorem tptD_u:Tryz.prog.underlying PTT=some tptD∧tptD.isRow=true:=by
 have h:=tpt_d
 unfold tptD
 cases h2:Tryz.prog.underlying PTT with
 | none=>rw [h2] at h; cases h
 | some d =>
  rw [h2] at h
  exact ⟨rfl,Option.some.inj h⟩
abbrev lsP (P:Nat→Pp) (j:Nat):List Lf:=lsX (P j).w.C
abbrev lpT (N:Nat) (P:Nat→Pp):Thing:=rwT 9 N (lsP P)
noncomputable def pLd {N j:Nat} (P:Nat→Pp) (hj:j<N):Ev Tryz.prog:=eLd tptD_u.1 tptD_u.2 9 (L:=lsP P) (by kernel_rfl) (fun β=>rfl) hj
noncomputable def pIx0 {n N j:Nat} (P:Nat→Pp) (hj:j<n) (hN:n≤N):Ev Tryz.prog:=eIx tps_u tps_s (lsP P) hj hN
theorem lpSome:(Tryz.prog.info? 61).isSome=true:=by kernel_rfl
noncomputable def lpApp:AppT Tryz.prog :=
 ⟨TPs,PTT,(Tryz.prog.info? 61).get lpSome,.agg #[.bool false,.bool false,.string ⟨#[]⟩,.bool false,.string ⟨#[]⟩,.bool false,.string ⟨#[]⟩,.bool false,.string ⟨#[]⟩],9,104,Tryz.underlying70,(Option.some_get lpSome).symm,by kernel_rfl,by kernel_rfl,by kernel_rfl,rfl,by decide,by decide⟩
theorem lp_one (r:Rw):∀ u∈(lsX r.C).map (Lf.den idE),u.oneCell'=true:=fun u hu=>by
 have e:(lsX r.C).map (Lf.den idE)=[.bool r.i,.bool r.x.b,.string r.x.s,.bool r.x.c,.string r.x.t,.bool r.y.b,.string r.y.s,.bool r.y.c,.string r.y.t]:=rfl
 rw [e] at hu
 simp only [List.mem_cons,List.not_mem_nil,or_false] at hu
 rcases hu with rfl | rfl | rfl | rfl | rfl | rfl | rfl | rfl | rfl<;>rfl
noncomputable abbrev ixF:Func:=Tryz.f296
abbrev lpS0 (n:Nat):SV:=.one (.c (.b (.y 0 0 n)))
abbrev maM (x0 y0 x1 y1 x2 y2 x3 y3:R4) (t:Bool):List Lf:=rL x0++rL y0++rL x1++rL y1++rL x2++rL y2++rL x3++rL y3++[.b (.v (.bool t))]
theorem mw_sub0 {z w:GQ}:qQ6 (gsub z w)=true↔z=w:=by
 rw [gzero_iff]
 constructor
 · rintro ⟨h1,h2⟩
   simp only [gsub] at h1 h2
   exact GQ.ext2 (by grind) (by grind)
 · rintro rfl
   simp only [gsub]
   exact ⟨by grind,by grind⟩
abbrev mgL (a b c d:Gn) (t:Bool):List Lf:=rL a.x++rL a.y++rL b.x++rL b.y++rL c.x++rL c.y++rL d.x++rL d.y++[.b (.v (.bool t))]
abbrev mgS (a b c d:Gn) (t:Bool):SV:=.one (.a (mgL a b c d t))
def gB (z w:GQ):Bool:=(fR z.re).eq (fR w.re)&&((fR z.im).eq (fR w.im)&&true)
theorem gB_iff {z w:GQ}:gB z w=true↔z=w:=by
 unfold gB
 simp only [Bool.and_true,Bool.and_eq_true,R4.eq_iff]
 constructor
 · rintro ⟨h1,h2⟩
   exact GQ.ext2 (fR_inj h1) (fR_inj h2)
 · rintro rfl
   exact ⟨rfl,rfl⟩
def gEq (z w:GQ) {r:Bool} (h:gB z w=r):Ev Tryz.prog:=eqEvG (fR z.re) (fR z.im) (fR w.re) (fR w.im) r h
abbrev g1':GQ:=gint 1 0
abbrev g0':GQ:=gint 0 0
def CkV (a b c d:Gn) (t:Bool) (k:Int):Prop:=∀ (β:Env) (w:World),Calls Tryz.prog 29 (([mgS a b c d t]:List SV).map (SV.den β)).toArray w fun e w'=>∃ xs:List Pl,qK2 β w 0 xs∧e=.returned ((SV.one (nI' k)).den (extE β 0 xs))∧qZ0 w' [] xs∧Below w.heap.size w w'
theorem mw_no (β:Env) (w:World):∀ (k:Nat) (t:Thing),([]:List Thing)[k]?=some t→t.D w (β k):=fun k t h=>by simp at h
theorem ck_no {a b c d:Gn} {t:Bool} (h:(a.B&&(b.B&&(c.B&&d.B)))=false):CkV a b c d t 2:=fun β w=>by
 cases h1:a.B with
 | false=>exact qQ1 (args:=[mgS a b c d t]) (obs:=[]) (res:=.one (nI' 2)) (news:=[]) (evs:=[(qH2 a h1).e]) (Ns:=[(3,21)]) (m:=800) Tryz.func29 hmA (fun β=>by kernel_rfl) (by kernel_rfl) β w (mw_no β w)
 | true=>cases h2:b.B with
  | false=>exact qQ1 (args:=[mgS a b c d t]) (obs:=[]) (res:=.one (nI' 2)) (news:=[]) (evs:=[(qH2 a h1).e,(qH2 b h2).e]) (Ns:=[(3,21)]) (m:=800) Tryz.func29 hmA (fun β=>by kernel_rfl) (by kernel_rfl) β w (mw_no β w)
  | true=>cases h3:c.B with
   | false=>exact qQ1 (args:=[mgS a b c d t]) (obs:=[]) (res:=.one (nI' 2)) (news:=[]) (evs:=[(qH2 a h1).e,(qH2 b h2).e,(qH2 c h3).e]) (Ns:=[(3,21)]) (m:=800) Tryz.func29 hmA (fun β=>by kernel_rfl) (by kernel_rfl) β w (mw_no β w)
   | true=>cases h4:d.B with
    | false=>exact qQ1 (args:=[mgS a b c d t]) (obs:=[]) (res:=.one (nI' 2)) (news:=[]) (evs:=[(qH2 a h1).e,(qH2 b h2).e,(qH2 c h3).e,(qH2 d h4).e]) (Ns:=[(3,21)]) (m:=800) Tryz.func29 hmA (fun β=>by kernel_rfl) (by kernel_rfl) β w (mw_no β w)
    | true=>rw [h1,h2,h3,h4] at h; cases h
section
variable (q:MQ) (h:FitM q)
abbrev ckGs (q:MQ) (h:FitM q) (k:Int):Prop:=CkV (.ok q.a h.1) (.ok q.b h.2.1) (.ok q.c h.2.2.1) (.ok q.d h.2.2.2) q.t k
noncomputable def ckM:List (Ev Tryz.prog):=[(qH2 (.ok q.a h.1) rfl).e,(qH2 (.ok q.b h.2.1) rfl).e,(qH2 (.ok q.c h.2.2.1) rfl).e,(qH2 (.ok q.d h.2.2.2) rfl).e,sR8unit.e]
theorem ckq_sz {q:MQ} (h:FitM q):MSz KD q:=⟨h.1.gsz.mono (by decide),h.2.1.gsz.mono (by decide),h.2.2.1.gsz.mono (by decide),h.2.2.2.gsz.mono (by decide)⟩
noncomputable def ckZ {b:Bool} (hd:qQ6 (mdet q)=b):List (Ev Tryz.prog):=[(sR8Det (ckq_sz h)).e,(sR4Zero (mdet q) hd).e]
theorem ck_q:(MayQ q∧ckGs q h 0)∨ckGs q h 2:=by
 cases r1:gB q.c g1' with
 | true =>
  cases hd:qQ6 (mdet q) with
  | false =>
   refine .inl ⟨⟨h,hd,.inl (mw_sub0.2 (gB_iff.1 r1))⟩,fun β w=>?_⟩
   exact qQ1 (evs:=ckM q h++[gEq q.c g1' r1]++ckZ q h hd) (Ns:=[(3,21)]) (m:=800) Tryz.func29 hmA (fun β=>by kernel_rfl) (by kernel_rfl) β w (mw_no β w)
  | true =>
   refine .inr fun β w=>?_
   exact qQ1 (evs:=ckM q h++[gEq q.c g1' r1]++ckZ q h hd) (Ns:=[(3,21)]) (m:=800) Tryz.func29 hmA (fun β=>by kernel_rfl) (by kernel_rfl) β w (mw_no β w)
 | false =>
  cases r2:gB q.c g0' with
  | false =>
   refine .inr fun β w=>?_
   exact qQ1 (evs:=ckM q h++[gEq q.c g1' r1,sR8zero.e,gEq q.c g0' r2]) (Ns:=[(3,21)]) (m:=800) Tryz.func29 hmA (fun β=>by kernel_rfl) (by kernel_rfl) β w (mw_no β w)
  | true =>
   cases r3:gB q.d g1' with
   | false =>
    refine .inr fun β w=>?_
    exact qQ1 (evs:=ckM q h++[gEq q.c g1' r1,sR8zero.e,gEq q.c g0' r2,sR8unit.e,gEq q.d g1' r3]) (Ns:=[(3,21)]) (m:=800) Tryz.func29 hmA (fun β=>by kernel_rfl) (by kernel_rfl) β w (mw_no β w)
   | true =>
    cases hd:qQ6 (mdet q) with
    | false =>
     have z0:qQ6 q.c=true:=by rw [gB_iff.1 r2]; rfl
     refine .inl ⟨⟨h,hd,.inr ⟨z0,mw_sub0.2 (gB_iff.1 r3)⟩⟩,fun β w=>?_⟩
     exact qQ1 (evs:=ckM q h++[gEq q.c g1' r1,sR8zero.e,gEq q.c g0' r2,sR8unit.e,gEq q.d g1' r3]++ckZ q h hd) (Ns:=[(3,21)]) (m:=800) Tryz.func29 hmA (fun β=>by kernel_rfl) (by kernel_rfl) β w (mw_no β w)
    | true =>
     refine .inr fun β w=>?_
     exact qQ1 (evs:=ckM q h++[gEq q.c g1' r1,sR8zero.e,gEq q.c g0' r2,sR8unit.e,gEq q.d g1' r3]++ckZ q h hd) (Ns:=[(3,21)]) (m:=800) Tryz.func29 hmA (fun β=>by kernel_rfl) (by kernel_rfl) β w (mw_no β w)
end
def CkMp (m:Mp) (k:Int):Prop:=∀ (β:Env) (w:World),Calls Tryz.prog 29 (([.one (.a m.C)]:List SV).map (SV.den β)).toArray w fun e w'=>∃ xs:List Pl,qK2 β w 0 xs∧e=.returned ((SV.one (nI' k)).den (extE β 0 xs))∧qZ0 w' [] xs∧Below w.heap.size w w'
abbrev r4k (x:R4):Prop:=x.s.size≤maxLen∧x.t.size≤maxLen
theorem map_all (x0 y0 x1 y1 x2 y2 x3 y3:R4) (t:Bool) (h0:r4k x0) (k0:r4k y0) (h1:r4k x1) (k1:r4k y1) (h2:r4k x2) (k2:r4k y2) (h3:r4k x3) (k3:r4k y3) :
  ∃ m:Mp,m.C=maM x0 y0 x1 y1 x2 y2 x3 y3 t∧((∃ q,MayQ q∧m.C=mCl q)∨(∃ t,OpenNo m t)∧CkMp m 2):=by
 obtain ⟨a0,e0⟩:=fr_of x0 h0
 obtain ⟨b0,f0⟩:=fr_of y0 k0
 obtain ⟨a1,e1⟩:=fr_of x1 h1
 obtain ⟨b1,f1⟩:=fr_of y1 k1
 obtain ⟨a2,e2⟩:=fr_of x2 h2
 obtain ⟨b2,f2⟩:=fr_of y2 k2
 obtain ⟨a3,e3⟩:=fr_of x3 h3
 obtain ⟨b3,f3⟩:=fr_of y3 k3
 have hC:(⟨a0,b0,a1,b1,a2,b2,a3,b3,t⟩:Mp).C=maM x0 y0 x1 y1 x2 y2 x3 y3 t:=by
  unfold Mp.C
  dsimp only
  rw [e0,f0,e1,f1,e2,f2,e3,f3]
 refine ⟨⟨a0,b0,a1,b1,a2,b2,a3,b3,t⟩,hC,?_⟩
 have two:∀ {a b c d:Gn},mgL a b c d t=maM x0 y0 x1 y1 x2 y2 x3 y3 t→CkV a b c d t 2→((∃ q,MayQ q∧(⟨a0,b0,a1,b1,a2,b2,a3,b3,t⟩:Mp).C=mCl q)∨(∃ u,OpenNo ⟨a0,b0,a1,b1,a2,b2,a3,b3,t⟩ u)∧CkMp ⟨a0,b0,a1,b1,a2,b2,a3,b3,t⟩ 2):=fun {a b c d} e hk=>by
  rcases open_all ⟨a0,b0,a1,b1,a2,b2,a3,b3,t⟩ with h | h
  · exact .inl h
  · refine .inr ⟨h,fun β w=>?_⟩
    have:=hk β w
    rw [hC,← e]
    exact this
 obtain ⟨a,rfl,rfl⟩:=gn_of x0 y0 h0 k0
 obtain ⟨b,rfl,rfl⟩:=gn_of x1 y1 h1 k1
 obtain ⟨c,rfl,rfl⟩:=gn_of x2 y2 h2 k2
 obtain ⟨d,rfl,rfl⟩:=gn_of x3 y3 h3 k3
 cases h:(a.B&&(b.B&&(c.B&&d.B))) with
 | false=>exact two rfl (ck_no h)
 | true =>
  cases a with
  | no=>cases h
  | ok za ha=>cases b with
   | no=>cases h
   | ok zb hb=>cases c with
    | no=>cases h
    | ok zc hc=>cases d with
     | no=>cases h
     | ok zd hd =>
      rcases ck_q ⟨za,zb,zc,zd,t⟩ ⟨ha,hb,hc,hd⟩ with ⟨hm,_⟩ | hk
      · exact .inl ⟨_,hm,hC⟩
      · exact two rfl hk
noncomputable abbrev maG (z:GQ):SV:=.tup [.a (lsX (gaC z)),nI' (gaK z)]
noncomputable abbrev maPc (p:Pt):List Lf:=lsX (rawC (paI p) (paX p) (paY p))
noncomputable abbrev maP0' (p:Pt):SV:=.tup [.a (lsX (paC p)),nI' (paK p)]
noncomputable abbrev maP (p:Pt):SV:=.tup [.a (maPc p),nI' (paK p)]
theorem maP_eq (p:Pt):maP0' p=maP p:=by rw [maP0',paC_raw]
section
variable {q:MQ} (h:MayQ q)
theorem ma_ksz {q:MQ} (h:MayQ q):MSz 1024 q:=⟨h.1.1.gsz,h.1.2.1.gsz,h.1.2.2.1.gsz,h.1.2.2.2.gsz⟩
theorem ma_det {q:MQ} (h:MayQ q):GSz 100000 (mdet q):=(((ma_ksz h).a.mul (ma_ksz h).d).sub ((ma_ksz h).b.mul (ma_ksz h).c)).mono (by decide)
noncomputable def zH6:Spec Tryz.prog :=
 Spec.auto Tryz.call49 [.one (.a (mCl q))] [] (maG (mdet q)) [] [(zQ6 h).e,(sDet ((ma_ksz h).mono (by decide))).e,(sTold ((ma_det h).mono (by decide))).e] [] 800 Tryz.func49 hmA (by kernel_rfl) (fun β=>by kernel_rfl)
end
section
variable {m:Mp} {t:Bool} (h:OpenNo m t)
def sMaDetNo:Spec Tryz.prog :=
 Spec.auto Tryz.call49 [.one (.a m.C)] [] (.tup [.a (lsX g0C),nI' 2]) [] [(sOpenNo h).e] [] 800 Tryz.func49 hmA (by kernel_rfl) (fun β=>by kernel_rfl)
end
theorem ma_fitT {R:Pt} (h:FitP R):maPc R=lsX R.w.C∧paK R=0:=by
 refine ⟨?_,paK_fit h⟩
 rw [maPc,(pa_fit h).1,(pa_fit h).2.1,(pa_fit h).2.2]
 rfl
theorem ma_fitN {R:Pt} (h:¬ FitP R):maPc R=.b (.v (.bool false))::lsX g0C∧paK R=4:=by
 refine ⟨?_,paK_not h⟩
 rw [maPc,(pa_not h).1,(pa_not h).2.1,(pa_not h).2.2]
 rfl
noncomputable def ppQ:Pp→Pt
 | .fin (.ok x _) (.ok y _)=>.fin ⟨x,y⟩
 | _=>.inf
theorem ppQ_ok {p:Pp} (h:p.B=true):FitP (ppQ p)∧p.w=(ppQ p).w:=by
 cases p with
 | inf=>exact ⟨trivial,rfl⟩
 | odd=>cases h
 | fin a b =>
  cases a with
  | no=>cases h
  | ok x hx=>cases b with
   | no=>cases h
   | ok y hy=>exact ⟨⟨hx,hy⟩,rfl⟩
noncomputable abbrev maR (q:MQ) (p:Pp):Pt:=msend q (ppQ p) (qQ6 (msD q (ppQ p)))
section
variable {q:MQ} (h:MayQ q) {p:Pp} (hp:p.B=true)
noncomputable def sMaAt:Spec Tryz.prog:=(sAt h (ppQ_ok hp).1 (b:=qQ6 (msD q (ppQ p))) rfl).as [.one (.a (mCl q)),.one (.a (lsX p.w.C))] (maP (maR q p)) (by
 show [SV.one (.a (mCl q)),SV.one (.a (lsX (ppQ p).w.C))]=_
 rw [(ppQ_ok hp).2]) (maP_eq _)
noncomputable def sMaAtT (hF:FitP (maR q p)):Spec Tryz.prog:=(sMaAt h hp).conv (.tup [.a (lsX (maR q p).w.C),nI' 0]) (by
 show maP (maR q p)=_
 rw [maP,(ma_fitT hF).1,(ma_fitT hF).2])
noncomputable def sMaAtN (hF:¬ FitP (maR q p)):Spec Tryz.prog:=(sMaAt h hp).conv (.tup [pt0,nI' 4]) (by
 show maP (maR q p)=_
 rw [maP,(ma_fitN hF).1,(ma_fitN hF).2]
 rfl)
end
def SaidO (P:Program) (fn:Func) (m0:Nat) (res:SV) (K:Nat) (row:Ob) (β:Env) (w:World) (e:Ending) (w':World):Prop :=
 ∃ β':Env,(∀ k,k<m0→β' k=β k)∧e=.returned (res.den β')∧row.holds β' w' (β' K)∧w.heap.size≤(β' K).b∧Fin w w'
def mineF {P:Program} (m0 K:Nat) (f:Cf P):Bool:=f.q K&&Nat.ble m0 K&&match f.ob[K]? with
 | some x=>x.mine
 | none=>false
def mineB {P:Program} (m0 K:Nat):Option (Stop P)→Bool
 | some (.ended f)=>mineF m0 K f
 | _=>false
theorem fin1_partsO {P:Program} {fn:Func} {m0 n:Nat} {res:SV} {K:Nat} {row:Ob} {f:Cf P} (hmine:mineF m0 K f=true) (h:∀ β,Eqs.ok (fin1 P fn m0 n res [(K,row)] f β)):f.good∧∀ {β0:Env} {w:World} {β':Env} {a':Act} {w':World},(∀ k,k<m0→β' k=β0 k)→Sync P m0 n (bd0 w.heap.size m0) w f β' a' w' →
  bodyPost P fn (SaidO P fn m0 res K row β0 w) .normal a' w'∧bodyPost P fn (SaidO P fn m0 res K row β0 w) .ret a' w':=by
 have fin:∃ r:R1 Value,run1 P m0 false (results fn (zJ6 idE f.sl n)) f.q f.ob []=some r∧res.of f.q=true∧r.ob.length=f.ob.length ∧
   ∀ β,Eqs.ok (chk P β (results fn (zJ6 β f.sl n)) r.tr.reverse (fun u=>[(.v u,.v (res.den β))])++(qZ8 f.q f.ob [(K,row)]++eqsOf β f.cs)):=by
  cases hx:run1 P m0 false (results fn (zJ6 idE f.sl n)) f.q f.ob [] with
  | none=>have:=h idE; unfold fin1 at this; rw [hx] at this; exact (Eqs.no_ok this).elim
  | some r =>
   obtain ⟨ra,rq,rob,rtr⟩:=r
   cases hc:(res.of f.q&&Nat.beq rob.length f.ob.length&&Nat.beq f.ev.length 0) with
   | false=>have:=h idE; unfold fin1 at this; rw [hx] at this; dsimp only at this; rw [hc] at this; exact (Eqs.no_ok this).elim
   | true =>
    have h3:=hc
    simp only [Bool.and_eq_true,Nat.beq_eq] at hc
    refine ⟨_,rfl,hc.1.1,hc.1.2,fun β=>?_⟩
    have:=h β
    unfold fin1 at this
    rw [hx] at this
    dsimp only at this
    rw [h3] at this
    exact this
 obtain ⟨r,f1,f2,f3,f4⟩:=fin
 refine ⟨fun β x hx=>eqsOf_ok (fun p hp=>f4 β p (List.mem_append.2 (.inr (List.mem_append.2 (.inr hp))))) x hx,?_⟩
 intro β0 w β' a' w' e s
 obtain ⟨h5,_,_,tr,h8,h9⟩:=run1_ok _ _ _ _ _ f1 (fun k hk=>(s.q k).1 hk)
 obtain ⟨k1,obj',k2,k3,k4⟩:=h9 _ _ _ _ _ _ s.good (fun k hk=>⟨hk,rfl⟩) (fun k a b=>by omega) s.m0.1
 have h6:=f4 β'
 rw [h8,List.append_nil,List.reverse_reverse] at h6
 have h7:Eqs.ok (chk P β' (results fn (zJ6 β' f.sl n)) tr (fun u=>[(.v u,.v (res.den β'))])):=fun p hp=>h6 p (List.mem_append.2 (.inl hp))
 obtain ⟨v,hv,hv2⟩:=chk_run _ _ _ h7 k1
 obtain ⟨e1,_⟩:=Eqs.cons_ok hv2
 injection e1 with e1
 subst e1
 rw [f3,qK4] at k4
 have hend:zZ3 β' w' tr=w':=by
  obtain ⟨tr2,x1,x2⟩:=run1_still _ _ _ _ _ f1 (fun k hk=>(s.q k).1 hk) f3
  rw [h8,List.append_nil,List.append_nil] at x1
  rw [List.reverse_inj.1 x1]
  exact x2 β' w'
 rw [hend] at hv k4
 rw [← tmps_eq s.sl] at hv
 unfold mineF at hmine
 rw [Bool.and_eq_true,Bool.and_eq_true] at hmine
 obtain ⟨⟨hq,hk⟩,hmn⟩:=hmine
 rw [Nat.ble_eq] at hk
 have hlow:w.heap.size≤(β' K).b:=by
  cases hx:f.ob[K]? with
  | none=>rw [hx] at hmn; cases hmn
  | some x =>
   rw [hx] at hmn
   exact (s.good.lowm K x hq hk hx hmn).elim id False.elim
 have hneed:Eqs.ok (qZ8 f.q f.ob [(K,row)]):=fun p hp=>f4 β' p (List.mem_append.2 (.inr (List.mem_append.2 (.inl hp))))
 have hres:bodyPost P fn (SaidO P fn m0 res K row β0 w) .normal a' w':=⟨s.defers,_,hv,β',e,rfl,qX1 s.good (fun k hk=>⟨hk,rfl⟩) _ hneed (K,row) (List.mem_singleton.2 rfl),hlow,⟨k4.bel.below⟩⟩
 exact ⟨hres,hres⟩
theorem last_okO {P:Program} {fn:Func} {m0 n:Nat} {w:World} {β0:Env} {res:SV} {K:Nat} {row:Ob} {Ns:List (Nat × Nat)} {m:Nat} {C:Cf P} {p:Code × List Kf} (hm:P.follows .mixedOrders=true) (hmn:mineB m0 K (runP P m0 n Ns m (some p.1) (.lp p.1::p.2) C)=true)
  (he:∀ β,Eqs.ok (lastE P fn m0 n res [(K,row)] (runP P m0 n Ns m (some p.1) (.lp p.1::p.2) C) β)):HdOk P m0 n w.heap.size w β0 (bodyPost P fn (SaidO P fn m0 res K row β0 w)) C p:=by
 intro β a w1 hβ hs
 cases hr:runP P m0 n Ns m (some p.1) (.lp p.1::p.2) C with
 | none=>have:=he idE; rw [hr] at this; exact (Eqs.no_ok this).elim
 | some s =>
  rw [hr] at he
  cases s with
  | head c ks f=>exact (Eqs.no_ok (he idE)).elim
  | ended f =>
   rw [hr] at hmn
   obtain ⟨hg,hw⟩:=fin1_partsO hmn he
   obtain ⟨_,_,r3⟩:=runP_ok hm _ _ _ _ _ hr ⟨hs.q,hs.uq⟩
   exact qW5 (r3 hg hs _ fun β' a' w' e s'=>hw (fun k hk=>(e k hk).trans (hβ k hk)) s')
theorem sx_cutX {P:Program} {f:FuncId} {fn:Func} (args:List SV) (obs:List Ob) (evs ev:List (Ev P)) (Ns:List (Nat × Nat)) (m:Nat) (hf:P.funcs[f]?=some fn) (hm:P.follows .mixedOrders=true) {u:Nat} {sl:List (Nat × SV)} {ob:List Ob} {σ:List Nat} {p':Code × List Kf} {X:Ending→World→Prop}
  (hp:(startP P fn args obs evs Ns m).bind Stop.pos=some p') (he:∀ β,Eqs.ok (pieceE P obs.length (qV4 fn args) (startP P fn args obs evs Ns m) u sl ob σ β))
  (hargs:args.all (SV.of fun k=>Nat.blt k obs.length)=true) (hobs:obs.all (fun x=>x.of (fun k=>Nat.blt k obs.length)&&x.own)=true) (β:Env) (w:World) (hh:∀ (k:Nat) (o:Ob),obs[k]?=some o→o.holds β w (β k))
  (hH:HdOk P obs.length (qV4 fn args) w.heap.size w β (bodyPost P fn X) (mkC P (qV4 fn args) u sl ob ev) p') :
  Calls P f (args.map (SV.den β)).toArray w X:=by
 have hnal:∀ (k r:Nat) (D:Thing),obs[k]?≠some (.al r D):=fun k r D ho=>by
  have:=List.all_eq_true.1 hobs _ (List.mem_of_getElem? ho)
  simp [Ob.own] at this
 have huq:UniqAl obs:=fun k j i D _ h1 _=>absurd h1 (hnal k i D)
 have hlt:∀ k,k<obs.length→∀ c,(β k).F c→c<w.heap.size:=fun k hk c hc=>by
  have h:=hh k _ (List.getElem?_eq_getElem hk)
  cases hx:obs[k] with
  | box cs t=>rw [hx] at h; rw [(h.1.1 c).1 hc]; exact qX6 h.2
  | th D=>rw [hx] at h; exact D.st.lt _ _ h c hc
  | al r D=>rw [hx] at h; exact D.st.lt _ _ h c hc
  | pl n=>rw [hx] at h; rw [(h.1.1 c).1 hc]; exact h.2.lt
  | row cs t n sz=>rw [hx] at h; rw [(h.1.1 c).1 hc]; exact qX6 h.2.choose_spec.1
  | ow D t=>rw [hx] at h; exact D.st.lt _ _ h.2 c hc
  | dead =>
   have:=List.all_eq_true.1 hobs _ (List.mem_of_getElem? (List.getElem?_eq_getElem hk))
   rw [hx] at this
   simp [Ob.own] at this
 cases hb:fn.body with
 | none=>unfold startP at hp; rw [hb] at hp; cases hp
 | some c =>
  have hst:startP P fn args obs evs Ns m=runP P obs.length (qV4 fn args) Ns m (some c) [] ⟨zJ7 args 0,fun k=>Nat.blt k obs.length,obs,evs,[]⟩:=by unfold startP; rw [hb]
  rw [hst] at hp he
  cases hr:runP P obs.length (qV4 fn args) Ns m (some c) [] ⟨zJ7 args 0,fun k=>Nat.blt k obs.length,obs,evs,[]⟩ with
  | none=>rw [hr] at hp; cases hp
  | some s =>
   rw [hr] at hp he
   cases s with
   | ended f=>cases hp
   | head c1 ks1 f1 =>
    obtain rfl:(c1,ks1)=p':=Option.some.inj hp
    obtain ⟨hg,hw⟩:=zZ0 ev he
    obtain ⟨_,_,r3⟩:=runP_ok hm _ _ _ _ _ hr ⟨fun k=>by dsimp only; rw [Nat.blt_eq],huq⟩
    refine calls_of_wp hf hb (r3 hg (B0:=bd0 w.heap.size obs.length) (w0:=w) (β:=β) ⟨⟨Keep.refl _ _,Nat.le_refl _,fun k o hk ho=>⟨hh k o ho,(Bool.and_eq_true _ _▸List.all_eq_true.1 hobs o (List.mem_of_getElem? ho)).1⟩,fun k hk=>hlt k (by simpa [Nat.blt_eq] using hk),fun k j hk _ _ hm=>?_,fun k _ hk hm=>?_,fun k hk hm=>?_,fun i hi=>by rw [Nat.blt_eq]; exact hi,fun k r D _ ho=>?_,fun k r D _ ho=>absurd ho (hnal k r D),fun k i _ hi _ hm=>by rw [Nat.blt_eq] at hi; omega⟩,fun k=>by dsimp only; rw [Nat.blt_eq],⟨?_,fun t=>?_⟩,fun t=>?_,⟨Nat.le_refl _,Nat.le_refl _⟩,rfl,huq⟩ _ fun β' a' w' e s=>?_)
    · rw [Nat.blt_eq] at hk; omega
    · rw [Nat.blt_eq] at hk; omega
    · rw [Nat.blt_eq] at hk; omega
    · exact absurd ho (hnal k r D)
    · simp [qV4]
    · rw [qV5,if_pos (Nat.zero_le _),Nat.sub_zero]
      simp only [Array.getD_eq_getD_getElem?,Array.getElem?_append,List.size_toArray,List.length_map,List.getElem?_toArray,List.getElem?_map]
      split
      · rename_i hlt2
        rw [List.getElem?_eq_getElem hlt2]
        rfl
      · rename_i hge
        rw [List.getElem?_eq_none (by omega)]
        simp [Array.getElem?_replicate]
        split<;>rfl
    · dsimp only
      rw [qV5,if_pos (Nat.zero_le _),Nat.sub_zero]
      cases hx:args[t]? with
      | none=>rfl
      | some x=>exact List.all_eq_true.1 hargs x (List.mem_of_getElem? hx)
    · obtain ⟨β'',e2,s2⟩:=hw s
      exact hH β'' a' w' (fun k hk=>(e2 k hk).trans (e k hk)) s2
noncomputable def sMaMay (p:Pp) {b:Bool} (hb:p.B=b):Spec Tryz.prog:=(sPMay p).as [.one (.a (lsX p.w.C))] (tB' b) (congrArg (fun l=>[SV.one (.a l)]) p.C_raw) (by rw [← hb]; rfl)
abbrev FPT:TypeId:=69
abbrev mi1L:List Lf:=[.f (.func 170) [] []]
noncomputable def sMi1 (p:Pp) {b:Bool} (hb:p.B=b):Spec Tryz.prog :=
 ⟨170,Tryz.call170,[.one (.a (lsX p.w.C))],[],tB' b,[],fun β w hh=>by
  cases b<;>exact qQ1 (evs:=[(sMaMay p hb).e]) (Ns:=[]) (m:=400) Tryz.func170 hmA (fun β=>by kernel_rfl) (by kernel_rfl) β w hh,by kernel_rfl⟩
noncomputable def sMi2 (p:Pp) (b:Bool) (hb:p.B=b):OSpec Tryz.prog :=
 OSpec.auto Tryz.call173 [.one (.a (lsX p.w.C)),.one (.c (.b (.p 0 0)))] [.box mi1L FPT] (tB' (!b)) [] [(sMi1 p hb).e] [] 400 Tryz.func173 hmA (by kernel_rfl) (fun β=>by kernel_rfl)
abbrev miV (b:Nat):SV:=.one (.c (.f (.func 173) [] [.p b 0]))
abbrev miA (n:Nat):List SV:=[lpS0 n,miV 1]
abbrev miO (N:Nat) (P:Nat→Pp):List Ob:=[(lpT N P).ob,.box mi1L FPT]
section
variable (n N:Nat) (P:Nat→Pp)
noncomputable abbrev miN:Nat:=qV4 ixF (miA n)
abbrev miSl (j:Nat):List (Nat × SV):=[(0,lpS0 n),(1,miV 1),(7,.one (nI' (n:Int))),(8,.one (nI' (j:Int)))]
noncomputable abbrev miC (j:Nat) (ev:List (Ev Tryz.prog)):Cf Tryz.prog:=mkC Tryz.prog (miN n) 2 (miSl n j) [(lpT N P).ob,.box mi1L FPT,.dead] ev
abbrev miH (r:Int) (β0:Env) (w:World) (c:Cf Tryz.prog):Prop:=HdOk Tryz.prog 2 (miN n) w.heap.size w β0 (bodyPost Tryz.prog ixF (Said Tryz.prog ixF 2 (.one (nI' r)) [] β0 w)) c (lpAt ixF 0)
variable (β0:Env) (w:World) {j:Nat} (hN:n≤N)
noncomputable def miE (hj:j<n):List (Ev Tryz.prog):=[.eqv 9 (.bool (decide ((j:Int)<(n:Int)))) (.bool true) (by rw [decide_eq_true (by omega)]),pIx0 P hj hN,pLd P (j:=j) (N:=N) (Nat.lt_of_lt_of_le hj hN)]
theorem mi_step (r:Int) (hj:j<n) (h:(P j).B=true) {j2:Int} (hj2:IntKind.i64.wrap ((j:Int)+1)=j2) (e2:j2=((j+1:Nat):Int)) (k:miH n r β0 w (miC n N P (j+1) [])):miH n r β0 w (miC n N P j (miE n N P hN hj++[(sMi2 (P j) true h).e,.eqv 18 (.int .i64 (IntKind.i64.wrap ((j:Int)+1))) (.int .i64 ((j+1:Nat):Int)) (by rw [hj2,e2]),.cut])) :=
 qQ7 (Ns:=[]) (m:=400) [] [0,1,0] hmA (by kernel_rfl) (fun β=>qQ0 (by kernel_rfl)) k
theorem mi_no (hj:j<n) (h:(P j).B=false):miH n (j:Int) β0 w (miC n N P j (miE n N P hN hj++[(sMi2 (P j) false h).e])) :=
 qJ9 (Ns:=[]) (m:=400) hmA (fun β=>qQ0 (by kernel_rfl))
theorem mi_end:miH n (-1) β0 w (miC n N P n [.eqv 9 (.bool (decide ((n:Int)<(n:Int)))) (.bool false) (by rw [decide_eq_false (by omega)])]) :=
 qJ9 (Ns:=[]) (m:=400) hmA (fun β=>qQ0 (by kernel_rfl))
include hN in
theorem mi_loop (hn:n≤1048576) (h:∀ i,i<n→(P i).B=true):∀ (d j:Nat),j+d=n→miH n (-1) β0 w (miC n N P j [])
 | 0,j,e=>by
  obtain rfl:j=n:=by omega
  exact zX8 (mi_end j N P β0 w)
 | d+1,j,e=>zX8 (mi_step n N P β0 w hN _ (by omega) (h j (by omega)) (j2:=((j+1:Nat):Int)) (by rw [IntKind.wrap_i64]; omega) rfl (mi_loop hn h d (j+1) (by omega)))
include hN in
theorem mi_loopN (hn:n≤1048576) {i:Nat} (hi:i<n) (h:(P i).B=false) (h2:∀ k,k<i→(P k).B=true):∀ (d j:Nat),j+d=i→miH n (i:Int) β0 w (miC n N P j [])
 | 0,j,e=>by
  obtain rfl:j=i:=by omega
  exact zX8 (mi_no n N P β0 w hN hi h)
 | d+1,j,e=>zX8 (mi_step n N P β0 w hN _ (by omega) (h2 j (by omega)) (j2:=((j+1:Nat):Int)) (by rw [IntKind.wrap_i64]; omega) rfl (mi_loopN hn hi h h2 d (j+1) (by omega)))
theorem mi_start (r:Int) (hh:(lpT N P).D w (β0 0)) (hb:(Ob.box mi1L FPT).holds β0 w (β0 1)) (h:miH n r β0 w (miC n N P 0 [])):Calls Tryz.prog 296 ((miA n).map (SV.den β0)).toArray w (Said Tryz.prog ixF 2 (.one (nI' r)) [] β0 w) :=
 sx_cut (P:=Tryz.prog) (miA n) (miO N P) [.cut] [] [] 400 (.one (nI' r)) [] Tryz.func296 hmA (u:=2) (sl:=miSl n 0) (ob:=[(lpT N P).ob,.box mi1L FPT,.dead]) (σ:=[0,1,0]) (p':=lpAt ixF 0) (by kernel_rfl) (fun β=>qQ0 (by kernel_rfl)) (by kernel_rfl) (by kernel_rfl) β0 w (fun i o ho=>by
  match i,ho with
  | 0,ho=>obtain rfl:=Option.some.inj ho; exact hh
  | 1,ho=>obtain rfl:=Option.some.inj ho; exact hb
  | i+2,ho=>cases ho) h
end
def fnPk:List SV→Nat
 | []=>0
 | .one (.c (.f _ _ [.p b _]))::_=>b
 | _::r=>fnPk r
def slPk:List SV→Nat
 | []=>0
 | .one (.c (.b (.y k _ _)))::_=>k
 | _::r=>slPk r
def env2 (g h:Pl):Env:=fun i=>match i with
 | 0=>g
 | _=>h
def miEv (f:FuncId) (en:qY8 Tryz.prog f) (n N:Nat) (P:Nat→Pp) (r:Value) (hr:∀ β,(tag r).den β=r) (ok:∀ (β0:Env) (w:World),(lpT N P).D w (β0 0)→(Ob.box mi1L FPT).holds β0 w (β0 1)→Calls Tryz.prog f ((miA n).map (SV.den β0)).toArray w fun e w'=>e=.returned r∧Below w.heap.size w w'):Ev Tryz.prog :=
 .dyn (fun o _ _=>qY3 o) fun _ xs ob=>lit (slPk xs) fun k=>lit (fnPk xs) fun b =>
  .call f en (fun β=>((miA n).map (SV.den (env2 (β k) (β b)))).toArray) [(k,(lpT N P).ob),(b,.box mi1L FPT)] 0 (tag r) [] (fun β w h=>of_pure0 (ok (env2 (β k) (β b)) w (h (k,(lpT N P).ob) (List.mem_cons_self ..)) (by
   have:=h (b,.box mi1L FPT) (List.mem_cons_of_mem _ (List.mem_singleton.2 rfl))
   exact this)) hr)
theorem mi_fin {n:Nat} {r:Value} {β0:Env} {w:World} {e:Ending} {w':World} (res:SV) (hr:∀ β,res.den β=r) (fn:Func) (h:Said Tryz.prog fn 2 res [] β0 w e w'):e=.returned r∧Below w.heap.size w w':=by
 obtain ⟨β',q,obj,_,rfl,_,_,_,g⟩:=h
 exact ⟨by rw [hr],g.bel⟩
noncomputable def miIx {n N:Nat} (P:Nat→Pp) (hN:n≤N) (hn:n≤1048576) (h:∀ i,i<n→(P i).B=true):Ev Tryz.prog :=
 miEv 296 Tryz.call296 n N P (.int .i64 (-1)) (fun β=>rfl) fun β0 w hh hb=>(mi_start n N P β0 w _ hh hb (mi_loop n N P β0 w hN hn h n 0 (by omega))).mono fun e w' k=>mi_fin (n:=n) _ (fun β=>rfl) ixF k
noncomputable def miIxN {n N:Nat} (P:Nat→Pp) (hN:n≤N) (hn:n≤1048576) {i:Nat} (hi:i<n) (h:(P i).B=false) (h2:∀ k,k<i→(P k).B=true):Ev Tryz.prog :=
 miEv 296 Tryz.call296 n N P (.int .i64 (i:Int)) (fun β=>rfl) fun β0 w hh hb=>(mi_start n N P β0 w _ hh hb (mi_loopN n N P β0 w hN hn hi h h2 i 0 (by omega))).mono fun e w' k=>mi_fin (n:=n) _ (fun β=>rfl) ixF k
theorem mi_has {n N:Nat} (P:Nat→Pp) (hN:n≤N) (hn:n≤1048576) (h:∀ i,i<n→(P i).B=true) (β0:Env) (w:World) (hh:(lpT N P).D w (β0 0)) (hb:(Ob.box mi1L FPT).holds β0 w (β0 1)) :
  Calls Tryz.prog 172 ((miA n).map (SV.den β0)).toArray w fun e w'=>e=.returned (.bool false)∧Below w.heap.size w w' :=
 (sx (P:=Tryz.prog) (miA n) (miO N P) [miIx P hN hn h] [] 400 (tB' false) [] Tryz.func172 hmA (fun β=>qQ0 (by kernel_rfl)) (by kernel_rfl) (by kernel_rfl) β0 w (fun i o ho=>by
  match i,ho with
  | 0,ho=>obtain rfl:=Option.some.inj ho; exact hh
  | 1,ho=>obtain rfl:=Option.some.inj ho; exact hb
  | i+2,ho=>cases ho)).mono fun e w' ⟨β',q,obj,_,he,_,_,_,g⟩=>⟨by rw [he]; rfl,g.bel⟩
theorem mi_hasN {n N:Nat} (P:Nat→Pp) (hN:n≤N) (hn:n≤1048576) {i:Nat} (hi:i<n) (h:(P i).B=false) (h2:∀ k,k<i→(P k).B=true) (β0:Env) (w:World) (hh:(lpT N P).D w (β0 0)) (hb:(Ob.box mi1L FPT).holds β0 w (β0 1)) :
  Calls Tryz.prog 172 ((miA n).map (SV.den β0)).toArray w fun e w'=>e=.returned (.bool true)∧Below w.heap.size w w' :=
 (sx (P:=Tryz.prog) (miA n) (miO N P) [miIxN P hN hn hi h h2,.eqv 8 (.bool (decide ((0:Int)≤(i:Int)))) (.bool true) (by rw [decide_eq_true (by omega)])] [] 400 (tB' true) [] Tryz.func172 hmA (fun β=>qQ0 (by kernel_rfl)) (by kernel_rfl) (by kernel_rfl) β0 w (fun i o ho=>by
  match i,ho with
  | 0,ho=>obtain rfl:=Option.some.inj ho; exact hh
  | 1,ho=>obtain rfl:=Option.some.inj ho; exact hb
  | i+2,ho=>cases ho)).mono fun e w' ⟨β',q,obj,_,he,_,_,_,g⟩=>⟨by rw [he]; rfl,g.bel⟩
noncomputable def miHas {n N:Nat} (P:Nat→Pp) (hN:n≤N) (hn:n≤1048576) (h:∀ i,i<n→(P i).B=true):Ev Tryz.prog :=
 miEv 172 Tryz.call172 n N P (.bool false) (fun β=>rfl) (mi_has P hN hn h)
noncomputable def miHasN {n N:Nat} (P:Nat→Pp) (hN:n≤N) (hn:n≤1048576) {i:Nat} (hi:i<n) (h:(P i).B=false) (h2:∀ k,k<i→(P k).B=true):Ev Tryz.prog :=
 miEv 172 Tryz.call172 n N P (.bool true) (fun β=>rfl) (mi_hasN P hN hn hi h h2)
noncomputable abbrev maL (q:MQ) (P:Nat→Pp) (j:Nat):List Lf:=lsX (maR q (P j)).w.C
theorem maOrL (q:MQ) (P:Nat→Pp) {n:Nat} (hn:n≤10000):OrL lpApp (maL q P) n :=
 ⟨fun j _=>rfl,fun j _=>lp_one _,Nat.le_trans hn (by decide),Nat.le_trans (Nat.mul_le_mul_right _ hn) (by show 10000*104≤_; decide)⟩
noncomputable abbrev mgF:Func:=Tryz.f45
abbrev mgA (q:MQ) (n:Nat):List SV:=[.one (.a (mCl q)),lpS0 n]
abbrev maNil:SV:=.one (.c (.b (.v (.slice none 0 0))))
section
variable (n N:Nat) (P:Nat→Pp) {q:MQ} (hq:MayQ q)
noncomputable abbrev mgN (q:MQ):Nat:=qV4 mgF (mgA q n)
abbrev mgSl (o:SV) (j:Nat):List (Nat × SV):=[(2,.one (.c (.b (.p 2 0)))),(7,o),(23,lpS0 n),(24,.one (nI' (n:Int))),(25,.one (nI' (j:Int)))]
noncomputable abbrev mgOb (q:MQ):List Ob:=[(lpT N P).ob,.dead,.box (mCl q) MOB]
noncomputable abbrev mgC0 (q:MQ) (ev:List (Ev Tryz.prog)):Cf Tryz.prog:=mkC Tryz.prog (mgN n q) 1 (mgSl n maNil 0) (mgOb N P q) ev
noncomputable abbrev mgC (q:MQ) (j:Nat) (ev:List (Ev Tryz.prog)):Cf Tryz.prog:=mkC Tryz.prog (mgN n q) 1 (mgSl n (.one (.c (.b (.y 3 0 j)))) j) (mgOb N P q++[orO 9 PTT j (maL q P)]) ev
abbrev mgH (q:MQ) (X:Ending→World→Prop) (β0:Env) (w:World) (c:Cf Tryz.prog):Prop:=HdOk Tryz.prog 1 (mgN n q) w.heap.size w β0 (bodyPost Tryz.prog mgF X) c (lpAt mgF 0)
abbrev mgRN (k:Int):SV:=.tup [.c (.b (.v (.slice none 0 0))),nI' k]
variable (β0:Env) (w:World) (X:Ending→World→Prop) {j:Nat} (hN:n≤N)
noncomputable def mgE (hj:j<n):List (Ev Tryz.prog):=[.eqv 26 (.bool (decide ((j:Int)<(n:Int)))) (.bool true) (by rw [decide_eq_true (by omega)]),pIx0 P hj hN,pLd P (j:=j) (N:=N) (Nat.lt_of_lt_of_le hj hN)]
theorem mg_first (hj:0<n) (h:(P 0).B=true) (hF:FitP (maR q (P 0))) (k:mgH n q X β0 w (mgC n N P q 1 [])) :
  mgH n q X β0 w (mgC0 n N P q (mgE n N P hN hj++[(sMaAtT hq h hF).e,eAp1 lpApp .nil (n0:=0) (L:=maL q P) (cs:=maL q P 0) rfl (maOrL q P (by decide)) rfl (fun β=>rfl),.cut])) :=
 qQ7 (Ns:=[]) (m:=800) [] [0,0,2,6] hmA (by kernel_rfl) (fun β=>qQ0 (by kernel_rfl)) k
theorem mg_step (hj:j<n) (hn:n≤1000) (h:(P j).B=true) (hF:FitP (maR q (P j))) {j2:Int} (hj2:IntKind.i64.wrap ((j:Int)+1)=j2) (e2:j2=((j+1:Nat):Int)) (k:mgH n q X β0 w (mgC n N P q (j+1) [])) :
  mgH n q X β0 w (mgC n N P q j (mgE n N P hN hj++[(sMaAtT hq h hF).e,eAp1 lpApp .own (n0:=j) (L:=maL q P) (cs:=maL q P j) trivial (maOrL q P (by omega)) rfl (fun β=>rfl),.eqv 42 (.int .i64 (IntKind.i64.wrap ((j:Int)+1))) (.int .i64 ((j+1:Nat):Int)) (by rw [hj2,e2]),.cut])) :=
 qQ7 (Ns:=[]) (m:=800) [] [0,0,2,7] hmA (by kernel_rfl) (fun β=>qQ0 (by kernel_rfl)) k
theorem mg_no0 (hj:0<n) (h:(P 0).B=true) (hF:¬ FitP (maR q (P 0))):mgH n q (Said Tryz.prog mgF 1 (mgRN 4) [] β0 w) β0 w (mgC0 n N P q (mgE n N P hN hj++[(sMaAtN hq h hF).e])) :=
 qJ9 (Ns:=[]) (m:=800) hmA (fun β=>qQ0 (by kernel_rfl))
theorem mg_no (hj:j<n) (h:(P j).B=true) (hF:¬ FitP (maR q (P j))):mgH n q (Said Tryz.prog mgF 1 (mgRN 4) [] β0 w) β0 w (mgC n N P q j (mgE n N P hN hj++[(sMaAtN hq h hF).e])) :=
 qJ9 (Ns:=[]) (m:=800) hmA (fun β=>qQ0 (by kernel_rfl))
theorem mg_end:mgH n q (SaidO Tryz.prog mgF 1 (.tup [.c (.b (.y 3 0 n)),nI' 0]) 3 (orO 9 PTT n (maL q P)) β0 w) β0 w (mgC n N P q n [.eqv 26 (.bool (decide ((n:Int)<(n:Int)))) (.bool false) (by rw [decide_eq_false (by omega)])]) :=
 last_okO (Ns:=[]) (m:=400) hmA (by kernel_rfl) (fun β=>qQ0 (by kernel_rfl))
include hq hN in
theorem mg_start (hn:n≤1000) (h:∀ i,i<n→(P i).B=true) (hh:(lpT N P).D w (β0 0)) (k:mgH n q X β0 w (mgC0 n N P q [])):Calls Tryz.prog 45 ((mgA q n).map (SV.den β0)).toArray w X :=
 sx_cutX (P:=Tryz.prog) (mgA q n) [(lpT N P).ob] [.eqv 14 (.bool (decide ((4096:Int)<(n:Int)))) (.bool false) (by rw [decide_eq_false (by omega)]),(sMbChk hq).e,miHas P hN (Nat.le_trans hn (by decide)) h,.cut] [] [] 400 Tryz.func45 hmA (u:=1) (sl:=mgSl n maNil 0) (ob:=mgOb N P q) (σ:=[0,0,1]) (p':=lpAt mgF 0) (by kernel_rfl) (fun β=>qQ0 (by kernel_rfl)) (by kernel_rfl) (by kernel_rfl) β0 w (fun i o ho=>by
  cases i with
  | zero=>simp only [List.getElem?_cons_zero] at ho; obtain rfl:=Option.some.inj ho; exact hh
  | succ i=>simp at ho) k
end
section
variable (n N:Nat) (P:Nat→Pp) {q:MQ} (hq:MayQ q) (β0:Env) (w:World) (X:Ending→World→Prop) (hN:n≤N)
include hq hN in
theorem mg_run (hn:n≤1000) (h:∀ i,i<n→(P i).B=true) {t:Nat} (ht:t≤n) (hF:∀ i,i<t→FitP (maR q (P i))) (k:mgH n q X β0 w (mgC n N P q t [])):∀ (d j:Nat),j+d=t→mgH n q X β0 w (mgC n N P q j [])
 | 0,j,e=>by
  obtain rfl:j=t:=by omega
  exact k
 | d+1,j,e=>zX8 (mg_step n N P hq β0 w X hN (by omega) hn (h j (by omega)) (hF j (by omega)) (j2:=((j+1:Nat):Int)) (by rw [IntKind.wrap_i64]; omega) rfl (mg_run hn h ht hF k d (j+1) (by omega)))
include hq hN in
theorem mg_all (hn:n≤1000) (h0:0<n) (h:∀ i,i<n→(P i).B=true) (hF:∀ i,i<n→FitP (maR q (P i))) (hh:(lpT N P).D w (β0 0)):Calls Tryz.prog 45 ((mgA q n).map (SV.den β0)).toArray w (SaidO Tryz.prog mgF 1 (.tup [.c (.b (.y 3 0 n)),nI' 0]) 3 (orO 9 PTT n (maL q P)) β0 w) :=
 mg_start n N P hq β0 w _ hN hn h hh (zX8 (mg_first n N P hq β0 w _ hN h0 (h 0 h0) (hF 0 h0) (mg_run n N P hq β0 w _ hN hn h (Nat.le_refl n) hF (zX8 (mg_end n N P β0 w)) (n-1) 1 (by omega))))
include hq hN in
theorem mg_unt (hn:n≤1000) (h:∀ i,i<n→(P i).B=true) {i:Nat} (hi:i<n) (hF:¬ FitP (maR q (P i))) (hF2:∀ k,k<i→FitP (maR q (P k))) (hh:(lpT N P).D w (β0 0)):Calls Tryz.prog 45 ((mgA q n).map (SV.den β0)).toArray w (Said Tryz.prog mgF 1 (mgRN 4) [] β0 w):=by
 refine mg_start n N P hq β0 w _ hN hn h hh ?_
 rcases Nat.eq_zero_or_pos i with rfl | h0
 · exact zX8 (mg_no0 n N P hq β0 w hN hi (h 0 hi) hF)
 · exact zX8 (mg_first n N P hq β0 w _ hN (by omega) (h 0 (by omega)) (hF2 0 h0) (mg_run n N P hq β0 w _ hN hn h (Nat.le_of_lt hi) hF2 (zX8 (mg_no n N P hq β0 w hN hi (h i hi) hF)) (i-1) 1 (by omega)))
end
noncomputable def sMgUnt {n N:Nat} (P:Nat→Pp) {q:MQ} (hq:MayQ q) (hN:n≤N) (hn:n≤1000) (h:∀ i,i<n→(P i).B=true) {i:Nat} (hi:i<n) (hF:¬ FitP (maR q (P i))) (hF2:∀ k,k<i→FitP (maR q (P k))):Spec Tryz.prog :=
 ⟨45,Tryz.call45,mgA q n,[lpT N P],mgRN 4,[],fun β w hh=>(mg_unt n N P hq β w hN hn h hi hF hF2 (hh 0 _ rfl)).mono fun e w' h=>said_0 h fun β' _=>rfl,by kernel_rfl⟩
noncomputable def sMgNo {n N:Nat} (P:Nat→Pp) {q:MQ} (hq:MayQ q) (hN:n≤N) (hn:n≤1000) {i:Nat} (hi:i<n) (h:(P i).B=false) (h2:∀ k,k<i→(P k).B=true):Spec Tryz.prog :=
 Spec.auto Tryz.call45 (mgA q n) [lpT N P] (mgRN 2) [] [.eqv 14 (.bool (decide ((4096:Int)<(n:Int)))) (.bool false) (by rw [decide_eq_false (by omega)]),(sMbChk hq).e,miHasN P hN (Nat.le_trans hn (by decide)) hi h h2] [] 800 Tryz.func45 hmA (by kernel_rfl) (fun β=>by kernel_rfl)
end Go.Proofs.YtbepimnlleilfaaGreat.Y
end
