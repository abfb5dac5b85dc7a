/- What walks of Go code need. No condition. -/
import Derived.Test.YtacibgiakaoomaaGreatRBT2
import Derived.Laws.StructEq
import Derived.Laws.Strings
import Derived.Laws.BitsLemmas
set_option linter.unusedSimpArgs false
set_option linter.unusedVariables false
namespace Go.TI
open Go Go.RowKit
def St.fzs (E:St) (f:Option Nat):St:={E with fz:=f}
variable {E E':St} {P:Program} {N i n sz d b k t j by_:Nat} {γ β α S V σ W S' A β':Type} {Q:Exit->St->Prop} {ops ops2:Array Oper} {c y z:Code} {dn FA UA q:List Nat} {w w':World} {blk:Root->Nat} {FS US:Root->List Nat} {o:Oper} {f sf g:FuncId} {s:SV} {fn:Func} {as:List AV} {e T T':TypeId} {K:St->Prop} {rest:List Oper} {p:Prop} {r:β} {l:List α} {kk:α->Option β} {s0:S} {body':S'->Option (S'⊕β)} {Am:List γ->Ql} {lt:γ->γ->Bool} {xl:List γ}
theorem mW {a:Act} {f:Option Nat} (r:Root):BH w w a a E (E.fzs f) blk blk r:=by
 have hp:∀q j,(E.fzs f).place r q j=E.place r q j:=λq j=>by cases r<;>rfl
 exact⟨.inr ⟨rfl,λq j v h1 h2=>⟨h1,by rw[hp];exact h2⟩,λq j ad _ h1 h2=>⟨h1,by rw[hp];exact h2⟩⟩,.inr ⟨rfl,λj ad h1 h2=>⟨h1,by rw[hp];exact h2⟩⟩⟩
theorem Ce.fzs {w0:Base} {a:Act} (h:Ce w0 FA UA N w a E blk FS US) (f:Option Nat) (hf:∀n,f=some n->Frz w0 a n):Ce w0 FA UA N w a (E.fzs f) blk FS US where
 slot:=λn=>GV mW (h.slot n) (λ_ _=>rfl) λ_ _=>rfl
 box:=h.box
 nohand:=h.nohand
 nodup:=h.nodup
 dis:=h.dis
 disU:=h.disU
 inF:=h.inF
 inU:=h.inU
 disA:=h.disA
 os:=h.os
 tape:=h.tape
 output:=h.output
 size:=h.size
 keep:=h.keep
 len:=h.len
 nodef:=h.nodef
 xblk:=h.xblk
 ambB:=h.ambB
 ambI:=h.ambI
 frz:=hf
 ambF:=h.ambF
 pin:=h.pin
theorem AAU (n:Nat):(2*n+1)/2=n:=by omega
theorem AAT (n:Nat):¬(2*n+1) %2=0:=by omega
def vF (x:Operand):Nat:=match x with
 | .tmp n=>n
 |_=>0
theorem KB.a {ts:List Nat} (hs:Cf P N false E (oA ops i)=some E') (h:KW P N ops ts (i::dn) (E'.fzs none) Q) (hk:(Sl P ops E i&&yO (oA ops i)&&Nat.beq (DL (oA ops i)).1 (DL (oA ops i)).2.1&&H3 N (oA ops i))=true:=by kernel_rfl) (hx:(DL<|oA ops i).2.2.1= .tmp (vF (DL<|oA ops i).2.2.1):=by kernel_rfl) (hz:E.fz=some (2*vF (DL<|oA ops i).2.2.1+1):=by kernel_rfl):KB P N ops ts dn i E Q:=by
 simp only[Ao]at hk;obtain⟨⟨⟨h0,h5⟩,h6⟩,h7⟩:=hk;obtain⟨h1,h2⟩:=GM h0;obtain⟨d,h3,_,h4⟩:=DS h7;have c:=AP h6;have ho:=fI h5;rw[<-c]at ho;intro w0 FA UA w a blk FS US hr hF hU;unfold wpOp;simp only[Iz h1,BB hr h2,Co];have he:Mo P E d (DL<|oA ops i).1 (DL<|oA ops i).2.2.1 (DL<|oA ops i).2.2.2=some E':=by grind [Cf]
 obtain⟨nx,w',v,blk',FS',US',k1,k2,k3,k4,k5,_,k6⟩:=UV hr hF hU ho h3 h4 he;have b:=hr.frz _ hz;unfold Frz at b;rw[AT<|AAT _,AAU,<-hx]at b;obtain⟨B,hB⟩:=b;refine .inl ?_;unfold Oper.wp;rw[k1]
 rcases k2 with rfl|⟨rfl,rfl⟩
 ·exact⟨λ_=>k6 B hB,_,blk',FS',US',h,k3.fzs none (λn hn=>by cases hn),k4,k5⟩
 exact⟨λ_=>k6 B hB,_,blk',FS',US',h,k3.fzs none (λn hn=>by cases hn),k4,k5⟩
def rm (k:IntKind) (a b:Int):Option Int:=if b=0 then none else some<|a.tmod b
def ban (k:IntKind) (a b:Int):Int:=k.wrap (BitVec.ofInt k.bits a&&&BitVec.ofInt k.bits b).toNat
def bxo (k:IntKind) (a b:Int):Int:=k.wrap (BitVec.ofInt k.bits a^^^BitVec.ofInt k.bits b).toNat
def ABP (P:Program) (E:St) (o:Oper) (k:IntKind) (q:Bool):Option (Int×Int):=match o.op with
 | .binOp op t x y _=>bif(match op with| .rem=>!q| .quo=>q|_=>false)then(match E.cell1 P t x,E.cell1 P t y with
  |some (.int k' a),some (.int k'' b)=>bif decide (k'=k)&&decide (k''=k)then some (a,b)else none
  |_,_=>none)else none
 |_=>none
theorem prm {k:IntKind} {a b v:Int} (hx:rm k a b=some v) (hc:ABP P E o k false=some (a,b):=by kernel_rfl):AG P E o=some (.one<|.int k v):=by
 unfold ABP at hc;split at hc
 ·rename_i op t x y t' ho;cases op<;>simp only[BQ,Al,Ad,reduceCtorEq]at hc;split at hc
  ·grind [rm,AG,VH,W6,yP]
  cases hc
 cases hc
def iB (P:Program) (f:FuncId) (as:List AV) (a:List TV):Prop:=∀(w:World) (vs:List Value) (FA UA:List Nat),Ke w as vs FA UA->FA.Nodup->(∀b∈FA,b∉UA)->(∀b∈FA++UA,b<w.heap.size)->
  Calls P f vs.toArray w λe w'=>∃v F U G V,e= .returned v/\AAd w w' FA UA (.tup []) [.ext a] [v] (.tuple #[]) F U G V
theorem gkp {cells:List TV} (hf:P.funcs[f]?=some fn) (hb:fn.body=some c) (hN:fn.ntmps=N) (h:Wp P N c (CQ as) λe E=>(e= .normal\/e= .ret)/\∃t r,fn.results.toList=[.tmp t]/\E.ptr? (.tmp t)=some (r,[],0)/\r.mem=true/\E.boxes r=some cells) (s:cells.isEmpty=false:=by rfl):iB P f as cells:=by
 subst hN;intro w vs FA UA ha l j m;obtain⟨blk,FS,US,hr,hF,hU⟩:=Rr (N:=fn.ntmps) ha l j m (A:=Ql.none) (fz:=none) trivial (λb hb=>by cases hb);refine calls_of_wp hf hb<|wp_mono (h _ _ _ _ _ _ _ _ hr hF hU) ?_;rintro e a w' ⟨E,blk',FS',US',⟨he,t,r,h1,h2,h3,h4⟩,k3,h5,h6⟩;obtain⟨u,ad,i,o⟩:=HE k3 h2;have p:ad=⟨blk' r,0,none⟩:=by
  cases r with
  |slot n=>cases h3
  |hand=>cases h3
  |box n=>injection i with i;grind [Addr.add]
  |ext n=>injection i with i;grind [Addr.add]
 obtain⟨d,T,F3,b2,b3,b4⟩:∃d T F3,w'.heap[blk' r]?=some (.cells d T (0,0))/\Bk w' cells d.toList F3 (US' r)/\FS' r=blk' r::F3:=by
  rcases k3.box r h3 with⟨q,_⟩|⟨cs,d,T,F3,q1,q2,q3,q4⟩
  ·grind
  grind
 have hne':cells≠ []:=by grind
 have k:(fn.results.toList.mapM<|OT P a.tmps).run P w'= .ok [a.eval<|.tmp t] w':=by
  rw[h1,List.mapM_cons];rfl
 have g:a.defers=[]/\∃v,(results fn a.tmps).run P w'= .ok v w'/\∃v' F U G V,Ending.returned v= .returned v'/\AAd w w' FA UA (.tup []) [.ext cells] [v'] (.tuple #[]) F U G V:=by
  refine⟨k3.nodef,_,Nt k,a.eval<|.tmp t,[],[],FS' r,US' r,by simp,?_⟩
  exact{
   res:=by grind [iE,Vc]
   fin:=⟨_,[],FS' r,[],US' r,[],rfl,by simp,by simp,⟨blk' r,d,T,F3,by rw[o,p],b2,b3,b4,hne'⟩,⟨rfl,rfl,rfl⟩⟩
   nodup:=by simpa using k3.nodup r
   dis:=λb hb hb'=>k3.disU r r b (by simpa using hb)<|by simpa using hb'
   inF:=λb hb=>k3.inF r b<|by simpa using hb
   inU:=λb hb=>k3.inU r b<|by simpa using hb
   os:=k3.os
   tape:=k3.tape
   output:=k3.output
   size:=k3.size
   keep:=λb hb hF=>k3.keep b hb hF (λe=>by cases e)}
 rcases he with rfl|rfl
 ·exact g
 exact g
section
variable {w0:Base} {a:Act}
theorem zQ {l:List (Bool×TypeId×Operand)} {ss:List (Option SV)} {E1:St} {c:Bool} {K:Act->World->Prop} {Q:Exit->Act->World->Prop} (h:Ce w0 FA UA N w a E blk FS US) (hF:FS .hand=[]) (hU:US .hand=[]) {args:Array Operand} {tys:Array TypeId} (ho:o.op= .call {callee:= .value (.func f),args:=args,argTypes:=tys}) (hf:aH P f) (hd:o.dst=some d) (hN:d<N) (hl:l.map (λx=>x.2.2)=args.toList) {i:List TV} (hg:iB P f as i) (h1:NC P E l=some (ss,E1)) (h2:I3 P E1 l ss=some (as,c)) (h3:c=true\/A9 i=false) (hK:∀w' v blk' FS' US',Ce w0 FA UA N w' (a.put (some d) v) (E1.newBox d i) blk' FS' US'->FS' .hand=[]->US' .hand=[]->K (a.put (some d) v) w'):o.wp P a w K Q:=by
 obtain⟨FS1,US1,F,U,k1,k2,k3,k4,_⟩:=OY h h1;rw[hF,Av]at k3;rw[hU,Av]at k4;obtain⟨U',k5,k6⟩:=Kj k2 k1 h2;have y:l.map (λx=>a.eval x.2.2)=(args.map a.eval).toList:=by
  rw[O1,<-hl,GN];rfl
 rw[y]at k5;have m:∀b∈F,b∉U':=by
  intro b hb hb';rw[<-k3]at hb
  rcases k6 b hb' with h4|⟨r,h4⟩|⟨_,r,h5,h4⟩
  ·rw[<-k4]at h4;exact k2.disU .hand .hand b hb h4
  ·exact k2.disU .hand r b hb h4
  exact k2.dis .hand r (Jj h5) b hb h4
 have k:=hg w _ F U' k5 (by rw[<-k3];exact k2.nodup .hand) m (by
  intro b hb
  rcases Ay.1 hb with hb|hb
  ·exact(k2.inF .hand b (by rw[k3];exact hb)).2
  rcases k6 b hb with h4|⟨r,h4⟩|⟨_,r,h5,h4⟩
  ·exact(k2.inU .hand b (by rw[k4];exact h4)).2
  ·exact(k2.inU r b h4).2
  exact(k2.inF r b h4).2)
 unfold Oper.wp;rw[Hl ho hf];simp only[Oper.upon];rw[Array.toArray_toList]at k;refine Calls.mono k ?_;rintro e w' ⟨v,Fr,Ur,G,V,rfl,g⟩;obtain⟨v0,vs0,G1,G2,V1,V2,p,rfl,rfl,⟨b0,z,T,F0,rfl,e1,e2,rfl,e3⟩,⟨rfl,rfl,rfl⟩⟩:=g.fin
 injection p with p _
 subst p;have q:=g.res;simp only[iE,Vc]at q;obtain⟨_,_,_,rfl,rfl⟩:=q;have t:=g.nodup;simp only[Av,AJ]at t;have a1:∀b∈b0::F0,(b∈FS1 .hand\/w.heap.size<=b)/\b<w'.heap.size:=by
  intro b hb;have:=g.inF b<|by simpa using hb
  grind
 have h8:∀b∈V1,(∃s,b∈US1 s)\/((b∈FS1 .hand\/w.heap.size<=b)/\b∉b0::F0/\b<w'.heap.size):=by
  intro b hb;obtain⟨h4,h5⟩:=g.inU b<|by simpa using hb
  have h9:b∉b0::F0:=λe=>g.dis b (by simpa using e)<|by simpa using hb
  grind [J4]
 have j:∀b,b<w.heap.size->b∉FS1 .hand->w'.heap[b]?=w.heap[b]? :=λb hb u=>g.keep b hb<|by grind
 let E2:St:={E1 with boxes:=B9 E1.boxes (.box d)<|some i,ver:=B9 E1.ver (.box d)<|E1.ver (.box d)+1,gen:=B9 E1.gen (.box d) (E1.gen (.box d)+1)}
 let blk1:=B9 blk (.box d) b0
 have h0:Root.box d≠Root.hand:=by simp
 have h6:∀s,BH w w' a a E1 E2 blk blk1 s:=by
  intro s;by_cases hs:s= .box d
  ·subst hs;exact⟨.inl (by simp[E2,B9]),.inl<|by simp[E2,B9]⟩
  have hv:E2.ver s=E1.ver s:=by grind [B9]
  have hg:E2.gen s=E1.gen s:=by grind [B9]
  by_cases hh:s= .hand
  ·subst hh;exact EW hv hg<|by simp[St.root,k2.nohand]
  refine Di k2 hv hg ?_ (λ_ _=>rfl) (λ_=>by grind [B9]) (λb hb=>j b (k2.inF s b hb).2<|k2.dis s .hand hh b hb) λb hb=>j b (k2.inU s b hb).2 λe=>k2.disU .hand s b e hb;cases s<;>simp_all [E2,St.root,B9]
 have g1:=k2.two (w':=w') (a':=a) (E':=E2) (blk':=blk1) (r1:= .box d) (r2:= .hand) (L1:=b0::F0) (L2:=[]) (V1:=V1) (V2:=[]) h0
  (by simpa using t)
  (λb hb=>by grind)
  (λb hb=>by grind)
  g.size g.os g.tape g.output (λb hb _ u=>j b hb u) h6
  (λn _ _=>⟨rfl,rfl⟩)
  (λs _ hs _=>⟨by grind [B9],by grind [B9]⟩)
  (.inr ⟨i,z,T,F0,by simp[E2,B9],by grind [B9],e2,by simp[blk1,B9]⟩)
  trivial (by simp[E2,B9,k2.nohand]) k2.len k2.nodef (hfz:=λn hn=>k2.frz n hn)
 have h7:H8 w' a E2 blk1 (.one<|.ptr (.box d) (E2.gen<|.box d) [] 0) (.pointer<|some ⟨b0,0,none⟩) [] []:=by
  have a0:E2.stamp (.box d) []=E2.gen (.box d):=rfl
  grind [Uj,St.place,St.root,B9,Bq,pa,Addr.add]
 have g2:=g1.put (d:=d) hN h7 WS.none;have:=hK w' _ blk1 _ _ g2 (by rfl)<|by rfl
 grind
end
theorem ADM {l:List AV} {x:Option α} (h:x.bind kk=some r) {c:α->List TV} (f:∀v,x=some v->iB P (Rl (oA ops i)) l (c v)) (hk:∀v,x=some v->kk v=some r->RW P N ops (i+1) ((clE P E (oA ops i) 0).newBox ((oA ops i).dst.getD 0) (c v)) Q) (b:eE P E (oA ops i) 0=some l:=by kernel_rfl) (hc:shB P E (oA ops i) 0=true:=by kernel_rfl) (ho:(Sl P ops E i&&VF P N (oA ops i)&&H3 N (oA ops i))=true:=by kernel_rfl):RW P N ops i E Q:=by
 obtain⟨v,hv,h⟩:=Af.1 h;simp only[Ao]at ho;obtain⟨h1,h2⟩:=GM ho.1.1;obtain⟨args,tys,h3,h4,h5,h6⟩:=PI ho.1.2;obtain⟨d,h7,_,h8⟩:=DS ho.2;have e:=hk v hv h;rw[h7]at e;unfold RW;rw[Fq h1];intro w0 FA UA w a blk FS US hr hF hU;simp only[wpList,BB hr h2,Co];unfold eE shB shA at*;unfold clE at e
 cases hm:mvA P E (oA ops i) 0 with
 |none=>grind
 |some z=>
  obtain⟨ss,E1⟩:=z;rw[hm]at b hc e;simp only at b hc e
  cases hs:I3 P E1 (bits 0<|FR<|oA ops i) ss with
  |none=>grind
  |some y=>
   rw[hs]at b hc
   injection b with b
   subst b;refine .inl<|zQ hr hF hU h3 h4 h7 h8 (l:=bits 0<|FR<|oA ops i) (by rw[Rq,h6]) (f v hv) hm hs (.inl hc) λw' v' blk' FS' US' k1 k2 k3=>e _ _ _ _ _ _ _ _ k1 k2 k3
theorem rsp {rs:List ResultVar} {a:List TV} (t:Nat) (h1:rs=[.tmp t]) (h:(match E.ptr? (.tmp t)with
 |some (r,[],0)=>bif r.mem then E.boxes r else none
 |_=>none)=some a):∃t r,rs=[.tmp t]/\E.ptr? (.tmp t)=some (r,[],0)/\r.mem=true/\E.boxes r=some a:=by grind
def xtE (N:Nat) (E:St) (o:Oper):Option St:=match o.op,o.dst with
 | .extract t ix,some d=>bif Nat.blt d N then MO E d t ix else none
 |_,_=>none
theorem ACd {w0:Base} {a:Act} (h:Ce w0 FA UA N w a E blk FS US) (hF:FS .hand=[]) (hU:US .hand=[]) (he:xtE N E o=some E'):
  ∃v blk' FS' US',(∀w2,(execOp a.eval o).run P w2= .ok (.value v) w2)/\Ce w0 FA UA N w (a.put o.dst v) E' blk' FS' US'/\FS' .hand=[]/\US' .hand=[]:=by
 unfold xtE at he;split at he
 ·rename_i t ix d ho hd
  cases hN:Nat.blt d N with
  |false=>grind
  |true=>
   rw[hN]at he;have hN':d<N:=by simp_all
   obtain⟨nx,w',v,blk',FS',US',k1,k2,k3,k4,k5,_⟩:=D0.extract (P:=P) h hF hU ho hd hN' he;have e:∃x,∀w2,(execOp a.eval o).run P w2= .ok (.value x) w2:=by
    unfold MO at he;split at he
    ·rename_i n;split at he
     ·rename_i ss b;split at he
      ·rename_i s c;have hs:=h.slot n;rw[b]at hs;obtain⟨vs,f,hx⟩:=hs;obtain⟨v,A,B,C,D,F1,U1,h1,h2,h3,h4,h5⟩:=X8 ix hx c;simp_all [execOp,Instr.extract];grind
      cases he
     cases he
    cases he
   grind
 cases he
theorem PR {ts:List Nat} (i:Nat) (h:KW P N ops ts (i::dn) ((xtE N E (oA ops i)).getD E) Q) (hs:(xtE N E (oA ops i)).isSome=true:=by kernel_rfl) (hk:(Sl P ops E i&&sL ops ts dn i)=true:=by kernel_rfl):KW P N ops ts dn E Q:=by
 have hs':=getD_some (a:=E) hs;simp only[Ao,sL]at hk;obtain⟨h1,h3,h4⟩:=hk;obtain⟨h5,h6⟩:=GM h1;unfold KW at h⊢;rw[RD (i:=i) h3];intro hQ hc w0 FA UA w a blk FS US k1 k2 k3;obtain⟨e1,e2,e3,e4,e5⟩:=U8 h4;obtain⟨v,blk',FS',US',g1,g2,g3,g4⟩:=ACd (P:=P) k1 k2 k3 hs';refine LE (v:=v) (n:=ops.size) (Iz h5) (Region.noSelect_spec e1) (λc a w hx=>?_) e4 e5 _ _ a w hc (Region.free_spec (Iz h5) e2) e3 (.inl ⟨BB k1 h6,λw2 _=>g1 w2⟩) ?_
 ·obtain⟨E',blk',FS',US',m1,_⟩:=hx
  grind
 exact h hQ (IB hc e3) _ _ _ _ _ _ _ _ g2 g3 g4
def g9 (P:Program) (E:St) (o:Oper) (s:SV):Prop:=∀(N:Nat) (w0:Base) (FA UA:List Nat) (w:World) (a:Act) (blk:Root->Nat) (FS US:Root->List Nat),Ce w0 FA UA N w a E blk FS US->Eb P w a E blk FS US o s
theorem AEp (hp:g9 P E (oA ops i) s) (h:RW P N ops (i+1) (E.put (oA ops i).dst s) Q) (hk:(Sl P ops E i&&H3 N (oA ops i))=true:=by kernel_rfl):RW P N ops i E Q:=by
 rw[Ao]at hk;obtain⟨h1,h2⟩:=GM hk.1;obtain⟨d,h3,_,h4⟩:=DS hk.2;rw[h3]at h;unfold RW;rw[Fq h1];intro w0 FA UA w a blk FS US hr hF hU;simp only[wpList,BB hr h2,Co];exact .inl<|(K3 hr hF hU (hp _ _ _ _ _ _ _ _ _ hr) h3 h4).wp λw' v blk' FS' US' k1 k2 k3 _=>h _ _ _ _ _ _ _ _ k1 k2 k3
theorem AEV {m:Nat} (hp:g9 P E (oA ops i) s) (h:SW P N ops m (i+1) (E.put (oA ops i).dst s) K) (hk:(Sl P ops E i&&H3 N (oA ops i)&&Nat.blt i m)=true:=by kernel_rfl):SW P N ops m i E K:=by
 simp only[Ao]at hk;obtain⟨h1,h2⟩:=GM hk.1.1;obtain⟨d,h3,_,h4⟩:=DS hk.1.2;rw[h3]at h;unfold SW;rw[PH h1 hk.2];intro w0 FA UA w a blk FS US k1 k2 k3;obtain⟨v,U,g1,g2,g3⟩:=hp _ _ _ _ _ _ _ _ _ k1;have hr:=g1 w λr _=>⟨λ_ _=>rfl,λ_ _=>rfl⟩;simp only[wpStill,BB k1 h2,Co,Oper.still,hr,Oper.stillUpon_value];rw[h3];refine h _ _ _ _ _ _ _ _ (k1.put h4 g2<|Mn k1 g3 _) ?_ ?_
 ·grind [AQ]
 grind [AQ]
theorem AEW {ts:List Nat} (i:Nat) (hp:g9 P E (oA ops i) s) (h:KW P N ops ts (i::dn) (E.put (oA ops i).dst s) Q) (hk:(Sl P ops E i&&H3 N (oA ops i)&&sL ops ts dn i)=true:=by kernel_rfl):KW P N ops ts dn E Q:=by
 simp only[Ao,sL]at hk;obtain⟨⟨h1,h2⟩,h3,h4⟩:=hk;obtain⟨h5,h6⟩:=GM h1;obtain⟨d,h7,_,h8⟩:=DS h2;unfold KW at h⊢;rw[RD (i:=i) h3];rw[h7]at h;intro hQ hc w0 FA UA w a blk FS US k1 k2 k3;obtain⟨e1,e2,e3,e4,e5⟩:=U8 h4;obtain⟨v,U,g1,g2,g3⟩:=hp _ _ _ _ _ _ _ _ _ k1;refine LE (v:=v) (n:=ops.size) (Iz h5) (Region.noSelect_spec e1) (λc a w hx=>?_) e4 e5 _ _ a w hc (Region.free_spec (Iz h5) e2) e3 (.inl ⟨BB k1 h6,λw2 e=>?_⟩) ?_
 ·obtain⟨E',blk',FS',US',m1,_⟩:=hx
  grind
 ·exact g1 w2 λr hr=>⟨λb hb=>e.2 b (k1.inF r b hb).2,λb hb=>e.2 b (k1.inU r b hb).2⟩
 rw[h7];refine h hQ (IB hc e3) _ _ _ _ _ _ _ _ (k1.put h8 g2<|Mn k1 g3 _) ?_ ?_
 ·grind [AQ]
 grind [AQ]
def ADs (o:Oper):Bool:=match o.op with
 | .assign (.const _)| .move (.const _)=>true
 |_=>false
theorem pjk (h:ADs o=true:=by kernel_rfl):g9 P E o (.one .junk):=by
 intro N w0 FA UA w a blk FS US hr;unfold ADs at h;split at h
 ·rename_i v ho;exact⟨v,[],λw2 _=>by simp_all [execOp,Act.eval],by simp[H8,Do,TV.isJunk],by simp⟩
 ·rename_i v ho;exact⟨v,[],λw2 _=>by simp_all [execOp,Act.eval],by simp[H8,Do,TV.isJunk],by simp⟩
 cases h
abbrev pb (n:Nat):SV:= .one (.ptr (.box n) 0 [] 0)
abbrev px (n:Nat):SV:= .one (.ptr (.ext n) 0 [] 0)
abbrev i6 (n:Int):TV:= .int .i64 n
abbrev tb (b:Bool):TV:= .bool b
abbrev ts (s:ByteArray):TV:= .str s
abbrev rg (n:Nat):List AV:=List.replicate n .gone
theorem jr {w:β} {f:V->Option β} {a:V⊕β} (h:some (.inr w)=some a) (hk:Sum.elim f some a=some r):some w=some r:=by grind
theorem jo {o:S⊕(V⊕β)} {w:β} {f:V->Option β} (h:some (.inr (.inr w))=some o) (hk:∀w,o= .inr (.inr w)->Sum.elim f some (.inr w)=some r):some w=some r:=by grind
theorem rr {v r:β} (h:some v=some r):v=r:=Option.some.inj h
theorem rq {e:Exit} {rs:List ResultVar} {a:SV} (he:e= .normal\/e= .ret:=by first|exact .inr rfl|exact .inl rfl) (hk:(Dm P E rs).map (λz=>D6 z.1)=some a:=by kernel_rfl):(e= .normal\/e= .ret)/\∃ss E',Dm P E rs=some (ss,E')/\D6 ss=a:=⟨he,rsz hk⟩
theorem rx {e:Exit} {rs:List ResultVar} {b:SV} {a:List TV} (he:e= .normal\/e= .ret:=by first|exact .inr rfl|exact .inl rfl) (hk:(Dm P E rs).map (λz=>(D6 z.1,z.2.boxes<|.ext 0))=some (b,some a):=by kernel_rfl):(e= .normal\/e= .ret)/\∃ss E',Dm P E rs=some (ss,E')/\D6 ss=b/\E'.boxes (.ext 0)=some a:=⟨he,rsx hk⟩
section
variable {id:Nat}
theorem ws (h:RW P N ops 0 E (IH (λE'=>Wp P N y E' Q) Q)):Wp P N (.seq (.region id ops false) y) E Q:=Wp.seq<|ACa h
end
theorem D7 {f:α->List TV} {n:Int} (hf:∀x,(f x).length=sz) (h:(gi l n).bind kk=some r) (hk:∀x,gi l n=some x->kk x=some r->RW P N ops (i+1) (E.put (oA ops i).dst (jY E (oA ops i) (n.toNat*sz+0))) Q) (hc:yL P E (oA ops i) sz=some (Az f l,n):=by kernel_rfl) (hq:wG P N ops i E=true:=by kernel_rfl):RW P N ops i E Q:=
 bd h λx gx h=>ACN (cB hf gx hc) (hk x gx h) hq
def pT (P:Program) (N:Nat) (ops:Array Oper) (ts dn:List Nat) (E:St) (i:Nat):Option St:=bif Nat.blt i ops.size&&H3 N (oA ops i)&&sL ops ts dn i then
 (match AR P ops E (oA ops i)with
 |some false=>some<|E.put (oA ops i).dst<|.tup []
 |some true=>match GP P E (oA ops i)with
  |some s=>some<|E.put (oA ops i).dst s
  |none=>xtE N E<|oA ops i
 |none=>none)else none
theorem tst {ts:List Nat} (hs:pT P N ops ts dn E i=some E') (h:KW P N ops ts (i::dn) E' Q):KW P N ops ts dn E Q:=by grind [ADO,ACW,PR,pT,Sl]
def rU (P:Program) (N:Nat) (ops:Array Oper) (ts dn:List Nat) (E:St):List Nat->Option (Nat×St)
 |[]=>none
 |i::l=>match pT P N ops ts dn E i with
  |some E'=>some (i,E')
  |none=>rU P N ops ts dn E l
theorem kO {ts:List Nat}:∀{l:List Nat} {E':St},rU P N ops ts dn E l=some (i,E')->pT P N ops ts dn E i=some E'
 |[],_,h=>by cases h
 |j::l,E',h=>by
  simp only[rU]at h;split at h
  ·grind
  exact kO h
def AB7 (P:Program) (N:Nat) (ops:Array Oper) (ts:List Nat) (mv:List Nat) (E:St) (i:Nat):Option St:=bif Sl P ops E i&&(kp (oA ops i)||ts.contains i)then Cf P N (mv.contains i) E (oA ops i)else none
def ABw (f:A->Option (List St)):List A->Option (List St)
 |[]=>some []
 |x::l=>match f x,ABw f l with
  |some a,some b=>some (a++b)
  |_,_=>none
theorem lJ {f:A->Option (List St)}:∀{l:List A} {L:List St},ABw f l=some L->∀x∈l,∃a,f x=some a/\∀E∈a,E∈L
 |[],_,_,x,hx=>by cases hx
 |y::l,L,h,x,hx=>by
  simp only[ABw]at h;split at h
  ·rename_i a b h1 h2
   injection h with h
   subst h
   rcases DE.1 hx with rfl|hx
   ·grind
   obtain⟨a',h3,h4⟩:=lJ h2 x hx
   grind
  cases h
def tD (P:Program) (N:Nat) (ops:Array Oper) (ts mv:List Nat):Nat->List Nat->St->Option (List St)
 |0,_,_=>none
 |n+1,dn,E=>match Region.ready .any ops (yC ops.size dn)with
  |[]=>some [E]
  |rs=>bif Nat.blt dn.length ops.size then(match rU P N ops ts dn E rs with
   |some (i,E')=>tD P N ops ts mv n (i::dn) E'
   |none=>ABw (λi=>match AB7 P N ops ts mv E i with
    |some E'=>tD P N ops ts mv n (i::dn) E'
    |none=>none) rs)else none
theorem pK {ts:List Nat} {mv:List Nat}:∀{n:Nat} {dn:List Nat} {E:St} {L:List St},tD P N ops ts mv n dn E=some L->(∀E'∈L,Q .normal E')->KW P N ops ts dn E Q
 |0,_,_,_,h,_=>by cases h
 |n+1,dn,E,L,h,hq=>by
  simp only[tD]at h;split at h
  ·grind [KW.done]
  rename_i b
  cases hb:Nat.blt dn.length ops.size with
  |false=>grind
  |true=>
   rw[hb]at h;split at h
   ·rename_i i E' hf;exact tst (kO hf) (pK h hq)
   refine KW.all _ (λi hi=>?_) b (by grind [rdy]);obtain⟨a,h1,h2⟩:=lJ h i hi;split at h1
   ·rename_i E' hs;unfold AB7 at hs
    cases hc:(Sl P ops E i&&(kp (oA ops i)||ts.contains i))with
    |false=>grind
    |true=>
     rw[hc]at hs;exact G4 hs (pK h1 λE'' hE=>hq E''<|h2 E'' hE) hc
   cases h1
def wR (P:Program) (N:Nat) (ops:Array Oper) (ts mv dn:List Nat) (E:St):List St:=(tD P N ops ts mv (ops.size+1) dn E).getD []
theorem nP {c:List PanicEntry} {X:Prop} (h:(Exit.panic c= .normal\/Exit.panic c= .ret)/\X):False:=by grind
section
variable {w0:Base} {a:Act}
theorem Ce.resay (h:Ce w0 FA UA N w a E blk FS US) (hd:d<N) (hs:H8 w a E blk s (a.eval (.tmp d)) [] []):∃FS' US',Ce w0 FA UA N w a (E.put (some d) s) blk FS' US'/\FS' .hand=FS .hand/\US' .hand=US .hand:=by
 have k:=h.put (F:=[]) (U:=[]) hd hs WS.none;have e:a.put (some d) (a.eval<|.tmp d)=a:=by
  cases a with
  |mk tmps defers=>simp_all [Act.put,Act.eval];grind
 grind [AQ]
end
theorem Ce.toAdr {w0:Base} {a:Act} (h:Ce w0 FA UA N w a E blk FS US) (hd:d<N) (hs:E.ptr? (.tmp d)=some (.ext 0,[],0)) (hp:E.amb.pin=some b):∃FS' US',Ce w0 FA UA N w a (E.put (some d) (.one (.adr ⟨b,0,none⟩))) blk FS' US'/\FS' .hand=FS .hand/\US' .hand=US .hand:=by
 obtain⟨_,ad,h1,h2⟩:=HE h hs;refine h.resay hd ?_;rw[h2];have e:=h.xblk 0;rw[h.pin b hp]at e;simp only[pa,e,Addr.add]at h1
 injection h1 with h1
 subst h1;refine⟨?_,λ_=>rfl⟩;show CL w (.adr ⟨b,0,none⟩) _ [] [];simp[CL]
section
variable {w0:Base} {a:Act}
theorem Ce.toPtr (h:Ce w0 FA UA N w a E blk FS US) (hd:d<N) (hs:E.slots d= .one (.adr ⟨b,0,none⟩)) (hp:E.amb.pin=some b) {c:List TV} (hb:E.boxes (.ext 0)=some c) (f:c.isEmpty=false):
  ∃FS' US',Ce w0 FA UA N w a (E.put (some d) (.one (.ptr (.ext 0) (E.gen (.ext 0)) [] 0))) blk FS' US'/\FS' .hand=FS .hand/\US' .hand=US .hand:=by
 have hv:a.eval (.tmp d)= .pointer (some ⟨b,0,none⟩):=by
  have:=h.slot d;rw[hs]at this;exact this.1.1
 refine h.resay hd ?_;have e:=h.xblk 0;rw[h.pin b hp]at e;refine⟨⟨rfl,rfl,Ax _,λ_=>⟨?_,⟨b,0,none⟩,?_,hv⟩⟩,λ_=>by rw[hv];rfl⟩
 ·grind [St.place,St.root,Bq]
 grind [pa,Addr.add]
end
def pnE (E:St) (d b:Nat):St:=E.put (some d)<|.one<|.adr ⟨b,0,none⟩
def ACq (N:Nat) (E:St) (d:Nat):Bool:=Nat.blt d N&&(match E.ptr? (.tmp d)with
 |some (.ext 0,[],0)=>true
 |_=>false)
theorem AAG (h:ACq N E d=true):d<N/\E.ptr? (.tmp d)=some (.ext 0,[],0):=by grind [Es,ACq]
theorem ADK (d:Nat) (h:RW P N ops i (pnE E d b) Q) (hp:E.amb.pin=some b:=by kernel_rfl) (ho:ACq N E d=true:=by kernel_rfl):RW P N ops i E Q:=by
 intro w0 FA UA w a blk FS US hr hF hU;obtain⟨h1,h2⟩:=AAG ho;obtain⟨FS',US',k1,k2,k3⟩:=hr.toAdr h1 h2 hp;exact h _ _ _ _ _ _ _ _ k1 (by rw[k2,hF])<|by rw[k3,hU]
def npE (E:St) (d:Nat):St:=E.put (some d)<|.one<|.ptr (.ext 0) (E.gen<|.ext 0) [] 0
def AAW (N:Nat) (E:St) (d:Nat):Bool:=Nat.blt d N&&(match E.boxes (.ext 0)with
 |some cells=>!cells.isEmpty
 |none=>false)
theorem qZ (h:AAW N E d=true):d<N/\∃a,E.boxes (.ext 0)=some a/\a.isEmpty=false:=by grind [Es,AAW]
theorem lT (d:Nat) (h:RW P N ops i (npE E d) Q) (hp:E.amb.pin=some b:=by kernel_rfl) (hs:E.slots d= .one (.adr ⟨b,0,none⟩):=by kernel_rfl) (ho:AAW N E d=true:=by kernel_rfl):RW P N ops i E Q:=by
 intro w0 FA UA w a blk FS US hr hF hU;obtain⟨h1,c,h2,h3⟩:=qZ ho;obtain⟨FS',US',k1,k2,k3⟩:=hr.toPtr h1 hs hp h2 h3;exact h _ _ _ _ _ _ _ _ k1 (by rw[k2,hF])<|by rw[k3,hU]
theorem sH {ts:List Nat} (d:Nat) (h:KW P N ops ts dn (npE E d) Q) (hp:E.amb.pin=some b:=by kernel_rfl) (hs:E.slots d= .one (.adr ⟨b,0,none⟩):=by kernel_rfl) (ho:AAW N E d=true:=by kernel_rfl):KW P N ops ts dn E Q:=by
 intro hq hc w0 FA UA w a blk FS US hr hF hU;obtain⟨h1,c,h2,h3⟩:=qZ ho;obtain⟨FS',US',k1,k2,k3⟩:=hr.toPtr h1 hs hp h2 h3;exact h hq hc _ _ _ _ _ _ _ _ k1 (by rw[k2,hF])<|by rw[k3,hU]
structure Zw (n c b g cap:Nat) (e T T':TypeId) (sz:Nat) (rest:List Value) (enc:γ->List TV) (w:World) (l:List γ):Prop where
 ne:b≠g/\c≠g/\c≠b
 len:l.length=n
 ptr:w.heap[c]?=some (.cells #[.pointer (some ⟨b,0,none⟩)] T' (0,0))
 box:w.heap[b]?=some (.cells (.slice (some ⟨g,0,none⟩) n cap::rest).toArray T (0,0))
 row:∃cur,w.heap[g]?=some (.cells cur e (0,0))/\cur.size=cap*sz/\cur.toList.take (l.length*sz)=(Az enc l).map TV.val
 le:l.length<=cap/\cap<=maxLen
theorem qI {l:List γ} {n c b g cap:Nat} {rest:List Value} {enc:γ->List TV} (h:Zw n c b g cap e T T' sz rest enc w l) (hk:k<l.length*sz):w.cell? ⟨g,k,none⟩=((Az enc l).map TV.val)[k]? :=by
 obtain⟨a,h1,h2,h3⟩:=h.row
 grind [World.cell?]
def GQ (n c b g cap:Nat) (e T T':TypeId) (sz:Nat) (rest:List Value) (enc:γ->List TV) (l:List γ):Ql where
 B:=[c,b,g]
 I:=λw=>Zw n c b g cap e T T' sz rest enc w l
 st:=λw w' h hk=>⟨h.ne,h.len,by rw[hk c<|by simp];exact h.ptr,by rw[hk b<|by simp];exact h.box,by rw[hk g<|by simp];exact h.row,h.le⟩
 rd:=λad=>if ad.spot.isSome=true then none else if ad.block=c then(if ad.off=0 then some (.pointer<|some ⟨b,0,none⟩)else none)else if ad.block=b then(if ad.off=0 then some (.slice (some ⟨g,0,none⟩) n cap)else none)else if ad.block=g then(if ad.off<l.length*sz then((Az enc l).map TV.val)[ad.off]? else none)else none
 rdI:=λw ad v h hr=>by
  obtain⟨bl,off,spot⟩:=ad
  cases spot with
  |some s=>simp at hr
  |none=>
   simp only[Option.isSome_none,Mc,nZ]at hr;split at hr
   ·rename_i hb;subst hb;split at hr
    ·rename_i ho;subst ho
     injection hr with hr
     subst hr;simp[World.cell?,h.ptr]
    cases hr
   split at hr
   ·rename_i hb;subst hb;split at hr
    ·rename_i ho;subst ho
     injection hr with hr
     subst hr;simp[World.cell?,h.box]
    cases hr
   grind [qI]
theorem iM {ie:TypeInfo} {c b g cap:Nat} {rest:List Value} {enc:γ->List TV} (h:∀x,(enc x).length=sz) (n:Nat) (gS:Bool) (hx:∀args W,(callFunc sf args).run P W=((Extern.ReflectliteSwapper.swap gS args).run P W).andThen λv w'=> .ok (.value v) w') (h6:P.info? e=some ie) (o:ie.size=sz) (q:∀w,(isAgg e).run P w= .ok true w):
  L4 P (GQ n c b g cap e T T' sz rest enc) sf #[.slice (some ⟨g,0,none⟩) n cap,typeHandle P e]:=by
 intro l i j x y hi hj w hI hB;obtain⟨⟨r,s,t⟩,hn,u,h0,h3,h7⟩:=hI;have a5:b<w.heap.size:=hB b (by simp[GQ]);have a6:c<w.heap.size:=hB c (by simp[GQ]);have a7:g<w.heap.size:=hB g (by simp[GQ]);obtain⟨f,hg,h8,h4⟩:=h3;obtain⟨i0,i1⟩:=H0 hi;obtain⟨j0,j1⟩:=H0 hj;obtain⟨a,rfl⟩:=BN i0;obtain⟨d,rfl⟩:=BN j0;simp only[B8]at i1 j1;have la:=(Ae.1 i1).1;have lc:=(Ae.1 j1).1;have hX:((enc x).map TV.val).length=sz:=by grind
 have hY:((enc y).map TV.val).length=sz:=by grind
 have a4:l.length*sz<=f.size:=by simp_all [BI]
 have h9:(a+1)*sz<=l.length*sz:=BI _ la;have a0:(d+1)*sz<=l.length*sz:=BI _ lc;rw[K1]at h9 a0;have hI:Zw n c b g cap e T T' sz rest enc w l:=⟨⟨r,s,t⟩,hn,u,h0,⟨f,hg,h8,h4⟩,h7⟩;have cell:∀(m:Nat) (z:γ),l[m]?=some z->∀k v,((enc z).map TV.val)[k]?=some v->w.cell? ⟨g,0+m*ie.size+k,none⟩=some v:=by
  intro m z hm k v hk;have a1:=(Ae.1 hk).1;rw[Bm,h]at a1;have lm:=(Ae.1 hm).1;have a2:(m+1)*sz<=l.length*sz:=BI _ lm;rw[K1]at a2;rw[o,K0,qI hI<|by omega];have e1:(Az enc l)[m*sz+k]?=(enc z)[k]? :=by
   have h2:(Az enc l)[m*sz+k]?=((Az enc l).drop<|m*sz)[k]? :=by grind
   grind [IZ,A6,Tf]
  grind
 have frz:∀(m k:Nat),w.frozen? ⟨g,0+m*ie.size+k,none⟩=false:=by grind [World.frozen?]
 have p:=Go.Lib.run_swap_cells (P:=P) gS e ie h6 q g 0 n cap a d (by omega) (by omega) ((enc x).map TV.val) ((enc y).map TV.val) (by rw[hX,o]) (by rw[hY,o]) (λv hv=>by grind [WV]) (λv hv=>by grind [WV]) w (cell a x i1) (cell d y j1) (λk _=>frz a k) λk _=>frz d k;simp only[K0,o]at p;have h1:=Ip e (0,0) g ((enc y).map TV.val) (a*sz) f w hg (by rw[hY];omega);have a8:(setRow f.toList (a*sz)<|(enc y).map TV.val).toArray.size=f.size:=by grind [D1]
 have h2:=Ip e (0,0) g ((enc x).map TV.val) (d*sz) _ _ h1 (by grind);have kB:∀k,k<w.heap.size->k≠g->((w.setCells g (a*sz)<|(enc y).map TV.val).setCells g (d*sz)<|(enc x).map TV.val).heap[k]?=w.heap[k]? :=by grind [World.heap_setCells_other]
 refine⟨(w.setCells g (a*sz)<|(enc y).map TV.val).setCells g (d*sz)<|(enc x).map TV.val,?_,⟨?_,?_,?_,?_,?_⟩,?_⟩
 ·rw[hx];have ea:(#[Value.int .i64 (a:Int),Value.int .i64 (d:Int)]++ #[Value.slice (some ⟨g,0,none⟩) n cap,typeHandle P e])= #[.int .i64 (a:Int),.int .i64 (d:Int),.slice (some ⟨g,0,none⟩) n cap,typeHandle P e]:=rfl;rw[ea,p];rfl
 ·rw[World.os_setCells,World.os_setCells]
 ·rw[HV,HV]
 ·rw[World.output_setCells,World.output_setCells]
 ·grind
 ·grind [GQ]
 have h5:(si (si l (a:Int) y) (d:Int) x).length=l.length:=by simp[si]
 have lcur:f.toList.length=f.size:=by simp
 have a9:(setRow f.toList (a*sz)<|(enc y).map TV.val).length=f.size:=by omega
 have b0:(setRow (setRow f.toList (a*sz)<|(enc y).map TV.val) (d*sz)<|(enc x).map TV.val).length=f.size:=by grind [D1]
 refine⟨⟨r,s,t⟩,h5.trans hn,by grind,by grind,⟨_,h2,?_,?_⟩,by grind⟩
 ·grind
 rw[h5];rw[KS (by rw[hX];omega) (by grind),KS (by rw[hY];omega) (by grind),h4,<-OZ,<-OZ];have e1:setRow (Az enc l) (a*sz) (enc y)=Az enc (si l (a:Int) y):=by
  have:=Rz h (z:=y) hi
  grind
 obtain⟨z0,a3⟩:∃z0,gi (si l (a:Int) y) (d:Int)=some z0:=by grind [si,gi]
 have e2:=Rz h (z:=x) a3
 grind
theorem qQ {l:List γ} {n c b g cap:Nat} {rest:List Value} {enc:γ->List TV}:(GQ n c b g cap e T T' sz rest enc l).rd ⟨c,0,none⟩=some (.pointer (some ⟨b,0,none⟩)):=by
 simp[GQ]
theorem qR {l:List γ} {n c b g cap:Nat} {rest:List Value} {enc:γ->List TV} (h:c≠b):(GQ n c b g cap e T T' sz rest enc l).rd ⟨b,0,none⟩=some (.slice (some ⟨g,0,none⟩) n cap):=by
 simp[GQ,h.symm]
theorem qP {l:List γ} {i:Int} {t:TV} {n c b g cap:Nat} {rest:List Value} {enc:γ->List TV} (a:∀x,(enc x).length=sz) {x:γ} {ad:Addr} (hi:gi l i=some x) (hk:(enc x)[k]?=some t) (hb:b≠g) (hc:c≠g) (d:ad=⟨g,i.toNat*sz+k,none⟩):(GQ n c b g cap e T T' sz rest enc l).rd ad=some t.val:=by
 subst d;obtain⟨i0,i1⟩:=H0 hi;have lm:=(Ae.1 i1).1;have f:=(Ae.1 hk).1;rw[a]at f;have h:(i.toNat+1)*sz<=l.length*sz:=BI _ lm;have e1:(Az enc l)[i.toNat*sz+k]?=(enc x)[k]? :=by
  have h2:(Az enc l)[i.toNat*sz+k]?=((Az enc l).drop<|i.toNat*sz)[k]? :=by grind
  grind [IZ,A6,Tf]
 grind [GQ]
theorem z8 (d:Nat) {ad:Addr} {x:Nat} (hk:EB P N ops rest (E.put (some d) (.one (.adr ad))) K) (hs:E.slots x= .one (.adr ad)) (ho:o.op= .nilCheck (.tmp x):=by rfl) (hd:o.dst=some d:=by rfl) (hN:Nat.blt d N=true:=by rfl) (hg:AR P ops E o=some true:=by rfl):EB P N ops (o::rest) E K:=
 EB.any d (.adr ad) hk (λw0 FA UA w a blk FS US h=>by
  have h1:=gW h hs;refine⟨.pointer<|some ad,?_,by simp[CL],rfl⟩
  simp_all [execOp]) hd hN hg
def Tg (o:Oper):Nat:=o.dst.getD 0
def AD2 (E:St) (ops:Array Oper) (i:Nat) (r:Root) (t:TV):St:=(((((E.put (some<|Tg<|oA ops i)<|.one .junk).put (some<|Tg<|oA ops<|i+1)<|.one .junk).setRoot r [t]).bump r).put (some<|Tg<|oA ops<|i+2)<|.tup [])
def ACf:Operand->Nat
 | .tmp n=>n
 |_=>0
def iQ (o:Oper):Nat:=match o.op with
 | .makeInterface _ x=>ACf x
 |_=>0
def eB (o:Oper):Nat:=match o.op with
 | .makeFunc _ _ c=>ACf<|c[0]?.getD<|.tmp 0
 |_=>0
def ACh (o:Oper):Array TypeId:=match o.op with
 | .call c=>c.argTypes
 |_=> #[]
def bA (s:SV):Nat:=match s with
 | .one (.view _ v _ _)=>v
 |_=>0
theorem RW.srt {rr:β} {l:List γ} {kk:List γ->Option β} {e:Nat} {x:Option (List γ)} (h:x.bind kk=some rr) {enc:γ->List TV} {a:FuncId} (r:Root) (hs:∀l',x=some l'->Se P (Rl (oA ops (i+2))) t e sz enc a l l') (hk:∀l',x=some l'->kk l'=some rr->RW P N ops (i+3) (AD2 E ops i r (.sl true e sz (Az enc l'))) Q) (b:∀x,(enc x).length=sz) (d:∀x,(enc x).all TV.flat=true) (hx:E.slots (iQ (oA ops i))= .one (.view r (bA (E.slots (iQ (oA ops i)))) [] 0):=by kernel_rfl) (c:E.ver r=bA (E.slots<|iQ<|oA ops i):=by kernel_rfl) (hp:E.ptr? (.tmp<|eB<|oA ops<|i+1)=some (r,[],0):=by kernel_rfl) (hc:E.boxes r=some [.sl true e sz<|Az enc l]:=by kernel_rfl) (hm:r.mem=true:=by kernel_rfl) (h1:(oA ops i).op= .makeInterface t (.tmp<|iQ<|oA ops i):=by kernel_rfl) (h2:(oA ops<|i+1).op= .makeFunc (.func a) #[] #[.tmp<|eB<|oA ops<|i+1]:=by kernel_rfl) (h3:(oA ops<|i+2).op= .call {callee:= .value (.func<|Rl<|oA ops<|i+2),args:= #[.tmp<|Tg<|oA ops i,.tmp<|Tg<|oA ops<|i+1],argTypes:=ACh (oA ops<|i+2)}:=by kernel_rfl) (k1:(oA ops i).dst=some (Tg<|oA ops i):=by kernel_rfl) (k2:(oA ops<|i+1).dst=some (Tg<|oA ops<|i+1):=by kernel_rfl) (k3:(oA ops<|i+2).dst=some (Tg<|oA ops<|i+2):=by kernel_rfl) (g1:(oA ops i).guard=none:=by kernel_rfl) (g2:(oA ops<|i+1).guard=none:=by kernel_rfl) (g3:(oA ops<|i+2).guard=none:=by kernel_rfl) (hN:(Nat.blt (Tg<|oA ops i) N&&Nat.blt (Tg<|oA ops<|i+1) N&&Nat.blt (Tg<|oA ops<|i+2) N&&!Nat.beq (Tg<|oA ops i) (Tg<|oA ops<|i+1)&&!Nat.beq (eB<|oA ops<|i+1) (Tg<|oA ops i)&&Nat.blt 0 sz&&Nat.blt (i+2) ops.size)=true:=by kernel_rfl) (ht:P.underlying t=some (.slice e):=by kernel_rfl) (hf:VF P N (oA ops<|i+2)=true:=by kernel_rfl):RW P N ops i E Q:=by
 obtain⟨l',hl',h⟩:=Af.1 h;simp only[Ao,CG]at hN;obtain⟨⟨⟨⟨⟨⟨q1,q2⟩,q3⟩,q4⟩,q5⟩,q6⟩,q7⟩:=hN;have b2:Nat.blt (i+1) ops.size=true:=by grind [Es]
 have b1:Nat.blt i ops.size=true:=by grind [Es]
 have hk':=hk l' hl' h;unfold RW at hk'⊢;rw[Fq b1,Fq b2,Fq q7];exact FB.srt (hs l' hl') hk' b d hx c hp hc hm h1 h2 h3 k1 k2 k3 g1 g2 g3 q1 q2 q3 q4 q5 q6 ht (PI hf).choose_spec.choose_spec.2.1
def gV (o:Oper):Nat:=match o.op with
 | .call c=>match c.args.toList with
  |[x]=>ACf x
  |_=>0
 |_=>0
def iH (s:SV):Nat:=match s with
 | .one (.view (.slot n) _ _ _)=>n
 |_=>0
def UO (P:Program) (f:FuncId) (t e sz:Nat) (enc:γ->List TV) (g:FuncId) (l l':List γ):Prop:=∀(w:World) (c b:Nat) (v:Value) (rest:List Value) (T T':TypeId),w.heap[c]?=some (.cells #[.pointer<|some ⟨b,0,none⟩] T' (0,0))->w.heap[b]?=some (.cells (v::rest).toArray T (0,0))->w.ownsRow 0 e sz v l.length ((Az enc l).map TV.val)->b∉Bu v->c∉Bu v->c≠b->
  Calls P f #[.iface t v,.func (.func g) #[] #[.pointer<|some ⟨c,0,none⟩]] w λr w'=>r= .returned (.tuple #[])/\F9 w w' (c::b::Bu v)/\w'.heap[c]?=w.heap[c]? /\w'.heap[b]?=w.heap[b]? /\w'.ownsRow 0 e sz v l'.length ((Az enc l').map TV.val)
def yK (c b:Nat) (v:Value) (rest:List Value) (T T':TypeId) (e sz n:Nat) (xs:List Value):Ql where
 B:=c::b::Bu v
 I:=λw=>w.heap[c]?=some (.cells #[.pointer<|some ⟨b,0,none⟩] T' (0,0))/\w.heap[b]?=some (.cells (v::rest).toArray T (0,0))/\w.ownsRow 0 e sz v n xs
 st:=λw w' h hk=>⟨by grind,by grind,h.2.2.1,by
  rcases h.2.2.2 with q|⟨g,cap,a,rfl,q1,q2,q3⟩
  ·exact .inl q
  grind [Bu,Value.ownBlock]⟩
theorem ABE {e:Nat} {l l':List γ} {rc:Root} {o1 o2 o3:Oper} {ver:Nat} {enc:γ->List TV} {f c:FuncId} {rs:List TV} {d1 d2 d3 x p b0:Nat} {tys:Array TypeId} (hs:UO P f t e sz enc c l l') (hk:FB P N ops rest (((((E.put (some d1) (.one .junk)).put (some d2) (.one .junk)).setRoot (.ext 0) (.sl true e sz (Az enc l')::rs)).bump (.ext 0)).put (some d3) (.tup [])) Q) (k:∀x,(enc x).length=sz) (j:∀x,(enc x).all TV.flat=true) (hpin:E.amb.pin=some b0) (hx:E.slots x= .one (.view (.ext 0) ver [] 0)) (a2:E.ver (.ext 0)=ver) (hp:E.ptr? (.tmp p)=some (rc,[],0)) (hc:E.boxes (.ext 0)=some (.sl true e sz (Az enc l)::rs)) (m:E.boxes rc=some [.adr ⟨b0,0,none⟩]) (hm:rc.mem=true) (h1:o1.op= .makeInterface t (.tmp x)) (h2:o2.op= .makeFunc (.func c) #[] #[.tmp p]) (h3:o3.op= .call {callee:= .value (.func f),args:= #[.tmp d1,.tmp d2],argTypes:=tys}) (k1:o1.dst=some d1) (k2:o2.dst=some d2) (k3:o3.dst=some d3) (g1:o1.guard=none) (g2:o2.guard=none) (g3:o3.guard=none) (a7:Nat.blt d1 N=true) (a8:Nat.blt d2 N=true) (a9:Nat.blt d3 N=true) (c0:Nat.beq d1 d2=false) (a3:Nat.beq p d1=false) (c2:Nat.blt 0 sz=true) (ht:P.underlying t=some (.slice e)) (hf:aH P f):FB P N ops (o1::o2::o3::rest) E Q:=by
 have hN1':d1<N:=by simp_all
 have hN2':d2<N:=by simp_all
 have hN3':d3<N:=by simp_all
 have hne':d1≠d2:=by intro e;simp_all
 have hne2':p≠d1:=by intro e;simp_all
 have hsz':0<sz:=by simp_all
 have h0:rc≠ .ext 0:=by grind
 intro w0 FA UA w a blk FS US hr hF hU;have a4:blk (.ext 0)=b0:=by rw[hr.xblk,hr.pin b0 hpin]
 obtain⟨v,vs,T,F2,U1,U2,b1,b2,b3,b4,b5⟩:∃v vs T F2 U1 U2,w.heap[blk<|.ext 0]?=some (.cells (v::vs).toArray T (0,0))/\(∃F1,CL w (.sl true e sz<|Az enc l) v F1 U1/\FS (.ext 0)=blk (.ext 0)::(F1++F2))/\Bk w rs vs F2 U2/\US (.ext 0)=U1++U2/\True:=by
  rcases hr.box (.ext 0) rfl with⟨q1,_⟩|⟨cs,g,T,F,q1,q2,q3,q4⟩
  ·grind
  rw[hc]at q1
  injection q1 with q1
  subst q1;simp only[Bk]at q3;obtain⟨v,o,F1,F2,U1,U2,e1,rfl,e3,q5,q6⟩:=q3;have:g=(v::o).toArray:=by grind
  grind
 obtain⟨F1,b2,b6⟩:=b2;obtain⟨T',c1⟩:∃T',w.heap[blk rc]?=some (.cells #[.pointer<|some ⟨b0,0,none⟩] T' (0,0)):=by
  rcases hr.box rc hm with⟨q1,_⟩|⟨cs,g,T,F,q1,q2,q3,q4⟩
  ·grind
  rw[m]at q1
  injection q1 with q1
  subst q1;simp only[Bk,CL]at q3;obtain⟨v,o,F1,F2,U1,U2,e1,rfl,e3,⟨rfl,_⟩,rfl,_⟩:=q3;have:g= #[.pointer<|some ⟨b0,0,none⟩]:=by grind
  grind
 have h4:blk rc∈FS rc:=by
  rcases hr.box rc hm with⟨q1,_⟩|⟨cs,g,T,F,q1,q2,q3,q4⟩
  ·grind
  rw[q4];simp
 simp only[CL]at b2;obtain⟨n,xs,F',b7,b8,rfl⟩:=b2;have h5:=TY b8<|FQ j l;obtain⟨rfl,rfl⟩:=Ko b8<|FQ j l;subst h5;have h6:n=l.length:=by
  have q:=b7.1;rw[Bm,DC k l]at q
  grind [Nat.eq_of_mul_eq_mul_right]
 subst h6;rw[AJ]at b6;rw[Av]at b4;have u:=hr.nodup<|.ext 0;rw[b6]at u
 have h7:blk (.ext 0)∉Bu v:=λhx=>(C4.1 u).1<|BJ _ hx
 have y:∀x∈FS (.ext 0),x≠blk rc:=λx hx e=>hr.dis _ _ h0 _ h4<|e▸hx
 have h8:blk rc∉Bu v:=λhx=>y (blk rc) (by grind) rfl
 have h9:blk rc≠blk (.ext 0):=λe=>y (blk<|.ext 0) (by rw[b6];simp) e.symm
 have evx:a.eval (.tmp x)=v:=by
  have q:=hr.slot x;simp_all [H8,Do,pv,AX,Addr.add,World.cell?]
 have evp:a.eval (.tmp p)= .pointer (some ⟨blk rc,0,none⟩):=by
  obtain⟨_,ad,q1,q2⟩:=HE hr hp;rw[q2]
  cases rc with
  |slot n=>cases hm
  |hand=>cases hm
  |box n=>grind [pa,Addr.add]
  |ext n=>grind [pa,Addr.add]
 obtain⟨FS1,US1,r1,r2,r3⟩:=Us hr hF hU hN1'<|.iface t v;have e1:(execOp a.eval o1).run P w= .ok (.value<|.iface t v) w:=by simp_all [run_underlying,execOp,Instr.makeInterface]
 simp only[wpList,BB hr<|IA (P:=P) (ops:=ops) g1,Co];refine .inl ?_
 try unfold Oper.wp
 rw[e1,Oper.upon_value,k1];have evp1:(a.put (some d1)<|.iface t v).eval (.tmp p)= .pointer (some ⟨blk rc,0,none⟩):=by grind [C1]
 obtain⟨FS2,US2,s1,s2,s3⟩:=Us r1 r2 r3 hN2'<|.func (.func c) #[] #[.pointer<|some ⟨blk rc,0,none⟩];have e2:(execOp (a.put (some d1)<|.iface t v).eval o2).run P w= .ok (.value<|.func (.func c) #[] #[.pointer<|some ⟨blk rc,0,none⟩]) w:=by simp_all [execOp,Instr.makeFunc]
 simp only[wpList,BB r1<|IA (P:=P) (ops:=ops) g2,Co];refine .inl ?_
 try unfold Oper.wp
 rw[e2,Oper.upon_value,k2];simp only[wpList,BB s1<|IA (P:=P) (ops:=ops) g3,Co];refine .inl ?_;have c4:d1<a.tmps.size:=AE hN1' hr.len;have c6:d2<(a.put (some d1)<|.iface t v).tmps.size:=AE hN2' r1.len
 try unfold Oper.wp
 rw[Hl h3 hf];have ea: #[Operand.tmp d1,.tmp d2].map ((a.put (some d1)<|.iface t v).put (some d2)<|.func (.func c) #[] #[.pointer<|some ⟨blk rc,0,none⟩]).eval= #[.iface t v,.func (.func c) #[] #[.pointer<|some ⟨blk rc,0,none⟩]]:=by grind [H1,C1]
 rw[ea];simp only[Oper.upon];refine Calls.mono (hs w (blk rc) (blk<|.ext 0) v vs T T' (by grind) b1 b7 h7 h8 h9) ?_;rintro ee w' ⟨rfl,h,c7,c8,a0⟩;have a1:((E.put (some d1)<|.one .junk).put (some d2)<|.one .junk).boxes (.ext 0)=some (.sl true e sz (Az enc l)::rs):=hc;obtain⟨G1,G2,V2,f1,f2,f3,f4⟩:∃G1 G2 V2,FS2 (.ext 0)=blk (.ext 0)::(G1++G2)/\G1=Bu v/\US2 (.ext 0)=V2/\Bk w rs vs G2 V2:=by
  rcases s1.box (.ext 0) rfl with⟨q1,_⟩|⟨cs,g,T2,F2,q1,q2,q3,q4⟩
  ·grind
  grind [Ko,FQ,Bk,CL]
 subst f2;have i:=s1.nodup<|.ext 0;rw[f1]at i;have a5:blk rc∈FS2 rc:=by
  have a6:((E.put (some d1)<|.one .junk).put (some d2)<|.one .junk).boxes rc=some [.adr ⟨b0,0,none⟩]:=m
  rcases s1.box rc hm with⟨q1,_⟩|⟨cs,g,T,F,q1,q2,q3,q4⟩
  ·grind
  rw[q4];simp
 have keepb:∀b,b<w.heap.size->b∉Bu v->w'.heap[b]?=w.heap[b]? :=by
  intro b hb hv;by_cases q1:b=blk rc
  ·grind
  by_cases q2:b=blk (.ext 0)
  ·grind
  exact h.keep b hb<|by grind
 have z:F9 w w' (FS2<|.ext 0):=⟨h.os,h.tape,h.output,h.size,λb hb hn=>keepb b hb λhv=>hn<|by grind⟩
 have hG:∀b∈G2,w'.heap[b]?=w.heap[b]? :=λb hb=>keepb b (s1.inF (.ext 0) b<|by grind).2
  (λhv=>(CF.1 (C4.1 i).2).2.2 b hv b hb rfl)
 have hV:∀b∈V2,w'.heap[b]?=w.heap[b]? :=λb hb=>keepb b (s1.inU (.ext 0) b (by rw[f3];exact hb)).2
  (λhv=>s1.disU (.ext 0) (.ext 0) b (by grind) (by rw[f3];exact hb))
 obtain⟨FS3,US3,t1,t2,t3⟩:=s1.turn s2 s3 (r:= .ext 0) rfl a1 (cells':= .sl true e sz (Az enc l')::rs) (by simp) (w':=w') z
  ⟨(
   v::vs).toArray,T,Bu v++G2,by grind,by
   rw[f3];simp only[Bk];refine⟨v,vs,Bu v,G2,[],V2,by simp,rfl,rfl,?_,EN f4 hG hV⟩;simp only[CL]
   exact⟨l'.length,_,[],a0,Ty<|FQ j l',by simp⟩,f1⟩
 obtain⟨FS4,US4,u1,u2,u3⟩:=t1.land (w':=w') (d:=d3) (s:= .tup []) (v:= .tuple #[]) (F:=[]) (U:=[]) hN3' (by simp[H8,Qm]) CR (by simp) (by simp) (Ax _) rfl rfl rfl λ_ _ _=>rfl;rw[k3];exact hk _ _ _ _ _ _ _ _ u1 u2 u3
def ABM:Option (List TV)->List TV
 |some (_::ts)=>ts
 |_=>[]
def rt0:Option (Root×List Nat×Nat)->Root
 |some (r,_,_)=>r
 |none=> .hand
def s2E (E:St) (ops:Array Oper) (i:Nat) (t:TV):St:=(((((E.put (some<|Tg<|oA ops i)<|.one .junk).put (some<|Tg<|oA ops<|i+1)<|.one .junk).setRoot (.ext 0) (t::ABM (E.boxes<|.ext 0))).bump<|.ext 0).put (some<|Tg<|oA ops<|i+2)<|.tup [])
theorem ACM {rr:β} {l:List γ} {kk:List γ->Option β} {e b0:Nat} {x:Option (List γ)} (h:x.bind kk=some rr) {enc:γ->List TV} {a:FuncId} (hs:∀l',x=some l'->UO P (Rl (oA ops (i+2))) t e sz enc a l l') (hk:∀l',x=some l'->kk l'=some rr->RW P N ops (i+3) (s2E E ops i (.sl true e sz (Az enc l'))) Q) (b:∀x,(enc x).length=sz) (d:∀x,(enc x).all TV.flat=true) (hpin:E.amb.pin=some b0:=by kernel_rfl) (hx:E.slots (iQ<|oA ops i)= .one (.view (.ext 0) (bA<|E.slots<|iQ<|oA ops i) [] 0):=by kernel_rfl) (c:E.ver (.ext 0)=bA (E.slots<|iQ<|oA ops i):=by kernel_rfl) (hp:E.ptr? (.tmp<|eB<|oA ops<|i+1)=some (rt0<|E.ptr?<|.tmp<|eB<|oA ops<|i+1,[],0):=by kernel_rfl) (hc:E.boxes (.ext 0)=some (.sl true e sz (Az enc l)::ABM (E.boxes<|.ext 0)):=by kernel_rfl) (f:E.boxes (rt0<|E.ptr?<|.tmp<|eB<|oA ops<|i+1)=some [.adr ⟨b0,0,none⟩]:=by kernel_rfl) (hm:(rt0<|E.ptr?<|.tmp<|eB<|oA ops<|i+1).mem=true:=by kernel_rfl) (h1:(oA ops i).op= .makeInterface t (.tmp<|iQ<|oA ops i):=by kernel_rfl) (h2:(oA ops<|i+1).op= .makeFunc (.func a) #[] #[.tmp<|eB<|oA ops<|i+1]:=by kernel_rfl) (h3:(oA ops<|i+2).op= .call {callee:= .value (.func<|Rl<|oA ops<|i+2),args:= #[.tmp<|Tg<|oA ops i,.tmp<|Tg<|oA ops<|i+1],argTypes:=ACh (oA ops<|i+2)}:=by kernel_rfl) (k1:(oA ops i).dst=some (Tg<|oA ops i):=by kernel_rfl) (k2:(oA ops<|i+1).dst=some (Tg<|oA ops<|i+1):=by kernel_rfl) (k3:(oA ops<|i+2).dst=some (Tg<|oA ops<|i+2):=by kernel_rfl) (g1:(oA ops i).guard=none:=by kernel_rfl) (g2:(oA ops<|i+1).guard=none:=by kernel_rfl) (g3:(oA ops<|i+2).guard=none:=by kernel_rfl) (hN:(Nat.blt (Tg<|oA ops i) N&&Nat.blt (Tg<|oA ops<|i+1) N&&Nat.blt (Tg<|oA ops<|i+2) N&&!Nat.beq (Tg<|oA ops i) (Tg<|oA ops<|i+1)&&!Nat.beq (eB<|oA ops<|i+1) (Tg<|oA ops i)&&Nat.blt 0 sz&&Nat.blt (i+2) ops.size)=true:=by kernel_rfl) (ht:P.underlying t=some (.slice e):=by kernel_rfl) (hf:VF P N (oA ops<|i+2)=true:=by kernel_rfl):RW P N ops i E Q:=by
 obtain⟨l',hl',h⟩:=Af.1 h;simp only[Ao,CG]at hN;obtain⟨⟨⟨⟨⟨⟨q1,q2⟩,q3⟩,q4⟩,q5⟩,q6⟩,q7⟩:=hN;have b2:Nat.blt (i+1) ops.size=true:=by grind [Es]
 have b1:Nat.blt i ops.size=true:=by grind [Es]
 have hk':=hk l' hl' h;unfold RW at hk'⊢;rw[Fq b1,Fq b2,Fq q7];exact ABE (hs l' hl') hk' b d hpin hx c hp hc f hm h1 h2 h3 k1 k2 k3 g1 g2 g3 q1 q2 q3 q4 q5 q6 ht (PI hf).choose_spec.choose_spec.2.1
theorem AEj {a cells':List TV} {b:SV} (hf:P.funcs[f]?=some fn) (hb:fn.body=some c) (hN:fn.ntmps=N) (h:∀b0,Wp P N c (CQ (.ext a::as) (jK b0)) λe E=>(e= .normal\/e= .ret)/\∃ss E',Dm P E fn.results.toList=some (ss,E')/\D6 ss=b/\E'.boxes (.ext 0)=some cells') (d:cells'.isEmpty=false:=by rfl):AC P f (.ext a::as) b (.ext cells'::List.replicate as.length .gone):=YM jK AAI hf hb (by rw[hN];exact h) d
def gH (P:Program) (N:Nat) (ops:Array Oper) (E:St) (i:Nat):Option (FuncId×Array Value×Int×Int):=bif Sl P ops E i&&H3 N (oA ops i)then
 (match(oA ops i).op with
 | .call c=>match c.callee,c.args.toList with
  | .value (.tmp t),[o1,o2]=>match E.slots t,E.cell1 P 0 o1,E.cell1 P 0 o2 with
   | .one (.fn (.func g) fr cap),some<|.int .i64 x,some (.int .i64 y)=>bif fr.isEmpty then some (g,cap,x,y)else none
   |_,_,_=>none
  |_,_=>none
 |_=>none)else none
theorem dD {cap:Array Value} {x y:Int} (h:gH P N ops E i=some (g,cap,x,y)):Sl P ops E i=true/\(∃d,(oA ops i).dst=some d/\Nat.blt d N=true)/\∃t o1 o2 tys,(oA ops i).op= .call {callee:= .value (.tmp t),args:= #[o1,o2],argTypes:=tys}/\E.slots t= .one (.fn (.func g) #[] cap)/\E.cell1 P 0 o1=some (.int .i64 x)/\E.cell1 P 0 o2=some (.int .i64 y):=by
 unfold gH at h
 cases hb:(Sl P ops E i&&H3 N (oA ops i))with
 |false=>grind
 |true=>
  rw[hb]at h;simp only[Ao]at hb;obtain⟨d,h1,h2,_⟩:=DS hb.2;refine⟨hb.1,⟨d,h1,h2⟩,?_⟩;split at h
  ·rename_i c hc;split at h
   ·rename_i t o1 o2 k1 k2;split at h
    ·rename_i g' fr cap' x' y' m1 m2 m3
     cases he:fr.isEmpty with
     |false=>grind
     |true=>
      rw[he]at h;obtain⟨rfl,rfl,rfl,rfl⟩:=h;have a:fr= #[]:=by simpa using he
      subst a;have ha:c.args= #[o1,o2]:=Array.toList_inj.1 k2;rw[hc];cases c
      grind
    cases h
   cases h
  cases h
theorem sG {rr:β} {l:List γ} {k:γ×γ->Option β} {cap:Array Value} (a:H7 P Am lt g cap) {x y:Int} (h:(uP l x y).bind k=some rr) (hk:∀v,k v=some rr->RW P N ops (i+1) (E.put (oA ops i).dst (.one (.bool (lt v.1 v.2)))) Q) (hc:gH P N ops E i=some (g,cap,x,y):=by kernel_rfl) (hA:E.amb=Am l:=by kernel_rfl):RW P N ops i E Q:=by
 obtain⟨h1,⟨d,h2,h3⟩,t,o1,o2,tys,h4,h5,h6,h7⟩:=dD hc;obtain⟨h8,h9⟩:=GM h1
 grind [Fq,ABF,RW]
theorem sF {rr:β} {l:List γ} {k:List γ->Option β} {cap:Array Value} (a:L4 P Am sf cap) (hB:∀l l',(Am l).B=(Am l').B/\(Am l).pin=none) {x y:Int} (h:(mU l x y).bind k=some rr) (hk:∀v,k v=some rr->RW P N ops (i+1) (({E with amb:=Am v}:St).put (oA ops i).dst<|.tup []) Q) (hc:gH P N ops E i=some (sf,cap,x,y):=by kernel_rfl) (hA:E.amb=Am l:=by kernel_rfl):RW P N ops i E Q:=by
 obtain⟨h1,⟨d,h2,h3⟩,t,o1,o2,tys,h4,h5,h6,h7⟩:=dD hc;obtain⟨h8,h9⟩:=GM h1
 grind [Fq,ABD,RW]
def AB6 (P:Program) (N:Nat) (ops:Array Oper) (E:St) (i:Nat):Option (FuncId×List AV):=bif Sl P ops E i&&H3 N (oA ops i)then
 (match(oA ops i).op with
 | .call c=>match c.callee with
  | .value (.func f)=>match P.funcs[f]? with
   |some fn=>match I3 P E ((c.argTypes.toList.zip c.args.toList).map λ(t,x)=>(false,t,x)) (List.replicate c.args.size none)with
    | some (l, b) => bif b && (l.all oZ && (!(fn.name == "runtime.NumGoroutine") && (!fn.body.isNone && Nat.beq c.argTypes.size c.args.size))) then some (f, l) else none
    |none=>none
   |none=>none
  |_=>none
 |_=>none)else none
theorem Rs {rr:β} {l:List AV} {k:List γ->Option β} {x:Option (List γ)} (h:x.bind k=some rr) (hB:∀l l',(Am l).B=(Am l').B/\(Am l).pin=none) (a:∀v,x=some v->L7 P f (Am xl) l (Am v)) (hk:∀v,k v=some rr->RW P N ops (i+1) (({E with amb:=Am v}:St).put (oA ops i).dst<|.tup []) Q) (hc:AB6 P N ops E i=some (f,l):=by kernel_rfl) (hA:E.amb=Am xl:=by kernel_rfl):RW P N ops i E Q:=by
 unfold AB6 at hc
 cases hb:(Sl P ops E i&&H3 N (oA ops i))with
 |false=>grind
 |true=>
  rw[hb]at hc;simp only[Ao]at hb;obtain⟨d,h1,h2,_⟩:=DS hb.2;obtain⟨h8,h9⟩:=GM hb.1;split at hc
  ·rename_i c j;split at hc
   ·split at hc
    ·rename_i fn e;split at hc
     ·rename_i l' b g
      cases hq : (b && (l'.all oZ && (!(fn.name == "runtime.NumGoroutine") && (!fn.body.isNone && Nat.beq c.argTypes.size c.args.size)))) with
      |false=>grind
      |true=>
       rw[hq]at hc;obtain⟨rfl,rfl⟩:=hc;simp only[Ao,CG]at hq;obtain⟨rfl,q1,q2,q3,q4⟩:=hq;unfold RW;rw[Fq h8];refine ACU (fn:=fn) h d Am (A:=Am xl) (args:=c.args) (tys:=c.argTypes) ?_ hA (λv=>⟨(hB _ _).1,(hB _ v).2⟩) g (Zr q1) a (λv _ hv=>by have:=hk v hv;rw[h1]at this;exact this) e q2 q3 h1 h2 (AP q4) h9;cases c
       grind
     cases hc
    cases hc
   cases hc
  cases hc
theorem ra {Am:α->Ql} {e:Exit} {v r:α} (h:some v=some r) (he:e= .normal\/e= .ret:=by first|exact .inr rfl|exact .inl rfl) (hA:E.amb=Am v:=by kernel_rfl):(e= .normal\/e= .ret)/\E.amb=Am r:=by grind
structure RS where
 s:List (Nat×SV)
 b:List (Root×List TV)
 a:Ql
def RS.st (x:RS):St:=ADq x.s x.b x.a
abbrev rs (s:List (Nat×SV)) (b:List (Root×List TV)):RS:=⟨s,b,Ql.none⟩
abbrev Q7 (s:List (Nat×SV)) (b:List (Root×List TV)) (a:Ql):RS:=⟨s,b,a⟩
def RS.in (X:RS) (E:St):Bool:=X.b.all λr=>r.1.mem&&(E.boxes r.1).isSome
def RS.nf (X:RS) (E:St):St:=L0 E (X.s.map Prod.fst)<|X.b.map Prod.fst
def Xg (X:RS) (E:St):Prop:=X.in E=true/\X.nf E=X.st
def jR (H:V->RS) (v:Option V) (Q:Exit->St->Prop):Exit->St->Prop
 | .normal,E=>∃a,v=some a/\Xg (H a) E
 |e,E=>Q e E
def lR (id:Nat) (H:S->RS) (H2:V->RS) (o:S⊕V⊕W) (Q:Exit->St->Prop):Exit->St->Prop
 | .normal,E=>∃s,o= .inl s/\Xg (H s) E
 | .exit i,E=>if i=id then∃v,o= .inr (.inl v)/\Xg (H2 v) E else Q (.exit i) E
 |e,E=>Q e E
def lR1 (id:Nat) (H:S->RS) (H2:V->RS) (o:S⊕V) (Q:Exit->St->Prop):Exit->St->Prop
 | .normal,E=>∃s,o= .inl s/\Xg (H s) E
 | .exit i,E=>if i=id then∃v,o= .inr v/\Xg (H2 v) E else Q (.exit i) E
 |e,E=>Q e E
variable {X:RS} {H:V->RS} {H2:V->RS}
theorem A7 (h:Xg X E) (hw:Wp P N c X.st Q):Wp P N c E Q:=Wp.norm _ _ _ (by rw[List.all_map];exact h.1) h.2 hw
theorem gI {k:V->Option β} {x:Option V} (h:x.bind k=some r) (H:V->RS) (h1:∀a,x=some a->Wp P N c E (jR H (some a) Q)) (h2:∀a,k a=some r->∀E',Xg (H a) E'->Q .normal E'):Wp P N c E Q:=by
 obtain⟨a,ha,h⟩:=Af.1 h
 refine Wp.mono (h1 a ha) λe E' hq=>?_
 cases e<;>try exact hq
 obtain⟨a',h3,h4⟩:=hq
 grind
theorem fj2 {k:V⊕W->Option β} {x:Option (V⊕W)} (h:x.bind k=some r) (H:V->RS) (h1:∀a,x=some a->k a=some r->Wp P N c E (jR H a.getLeft? Q)) (h2:∀a,k (.inl a)=some r->∀E',Xg (H a) E'->Q .normal E'):Wp P N c E Q:=by
 obtain⟨a,ha,h⟩:=Af.1 h
 refine Wp.mono (h1 a ha h) λe E' hq=>?_
 cases e<;>try exact hq
 obtain⟨a',h3,h4⟩:=hq
 grind
theorem Q8 {H:S->RS} {Q':Exit->St->Prop} {body:S->Option (S⊕A)} {a:A} (hb:∀s o,body s=some o->(∀a',o= .inr a'->a'=a)->Wp P N c (H s).st (λe E=>match e with| .normal=>∃s,o= .inl s/\Xg (H s) E|e=>Q' e E)):
  ∀{n:Nat} {s:S} {E:St},Xg (H s) E->ON body n s=some a->g8 P N c Q' n E
 |0,s,E,_,h=>by cases h
 |n+1,s,E,hn,h=>by
  simp only[ON]at h;refine A7 hn ?_;split at h
  ·cases h
  ·rename_i s' hs
   refine Wp.mono (hb s _ hs (λa' h=>by cases h)) λe E' hq=>?_
   cases e<;>try exact hq
   obtain⟨s2,h2,h3⟩:=hq
   injection h2 with h2
   subst h2;exact Q8 hb h3 h
  rename_i a' hs
  refine Wp.mono (hb s _ hs λa2 h2=>by grind) λe E' hq=>?_
  cases e<;>try exact hq
  grind
theorem ADw {id:Nat} {k:V⊕W->Option β} {H:S->RS} {body:S->Option (S⊕V⊕W)} (h:(Ai body s0).bind k=some r) (h0:Xg (H s0) E) (hb:∀s o,body s=some o->(∀w,o= .inr (.inr w)->k (.inr w)=some r)->Wp P N c (H s).st (lR id H H2 o Q)) (h2:∀v,k (.inl v)=some r->∀E',Xg (H2 v) E'->Q .normal E'):Wp P N (.block id (.loop c)) E Q:=by
 obtain⟨a,ha,h⟩:=Af.1 h;obtain⟨n,hn⟩:=GB.1 ha;refine Wp.block<|Wp.loop n<|Q8 (H:=H) (a:=a) (λs o hs ho=>?_) h0 hn
 refine Wp.mono (hb s o hs λw hw=>by grind) λe E' hq=>?_
 simp_all [lR,VJ];grind
theorem ADx {id:Nat} {k:V->Option β} {H:S->RS} {body:S->Option (S⊕V)} (h:(Ai body s0).bind k=some r) (h0:Xg (H s0) E) (hb:∀s o,body s=some o->Wp P N c (H s).st (lR1 id H H2 o Q)) (h2:∀v,k v=some r->∀E',Xg (H2 v) E'->Q .normal E'):Wp P N (.block id (.loop c)) E Q:=by
 obtain⟨a,ha,h⟩:=Af.1 h;obtain⟨n,hn⟩:=GB.1 ha;refine Wp.block<|Wp.loop n<|Q8 (H:=H) (a:=a) (λs o hs ho=>?_) h0 hn
 refine Wp.mono (hb s o hs) λe E' hq=>?_
 simp_all [lR1,VJ];grind
theorem Tq {id:Nat} {k:V⊕W->Option β} {body:S->Option (S⊕V⊕W)} (h:(Ai body s0).bind k=some r) (H:S->RS) (H2:V->RS) (hb:∀s o,body s=some o->(∀w,o= .inr (.inr w)->k (.inr w)=some r)->Wp P N c (H s).st (lR id H H2 o Q)) (h2:∀v,k (.inl v)=some r->∀E',Xg (H2 v) E'->Q .normal E') (h0:(H s0).in E=true:=by kernel_rfl) (hn:(H s0).nf E=(H s0).st:=by kernel_rfl):Wp P N (.block id<|.loop c) E Q:=ADw h ⟨h0,hn⟩ hb h2
theorem JU {id:Nat} {k:V->Option β} {body:S->Option (S⊕V)} (h:(Ai body s0).bind k=some r) (H:S->RS) (H2:V->RS) (hb:∀s o,body s=some o->Wp P N c (H s).st (lR1 id H H2 o Q)) (h2:∀v,k v=some r->∀E',Xg (H2 v) E'->Q .normal E') (h0:(H s0).in E=true:=by kernel_rfl) (hn:(H s0).nf E=(H s0).st:=by kernel_rfl):Wp P N (.block id<|.loop c) E Q:=ADx h ⟨h0,hn⟩ hb h2
theorem GU {k:V->Option β} {x:Option V} (h:x.bind k=some r) (H:V->RS) (h1:∀a,x=some a->Wp P N c E (jR H (some a) (IH (λE'=>Wp P N y E' Q) Q))) (h2:∀a,k a=some r->Wp P N y (H a).st Q):Wp P N (.seq c y) E Q:=Wp.seq<|gI h H h1 λa ha E' hE=>A7 hE<|h2 a ha
theorem yl1 {id:Nat} {k:V->Option β} {body:S->Option (S⊕V)} (h:(Ai body s0).bind k=some r) (H:S->RS) (H2:V->RS) (hb:∀s o,body s=some o->Wp P N c (H s).st (lR1 id H H2 o (IH (λE'=>Wp P N y E' Q) Q))) (h2:∀v,k v=some r->Wp P N y (H2 v).st Q) (h0:(H s0).in E=true:=by kernel_rfl) (hn:(H s0).nf E=(H s0).st:=by kernel_rfl):Wp P N (.seq (.block id<|.loop c) y) E Q:=Wp.seq<|ADx h ⟨h0,hn⟩ hb λv hv E' hE=>A7 hE<|h2 v hv
theorem yl2 {id:Nat} {k:V⊕W->Option β} {body:S->Option (S⊕V⊕W)} (h:(Ai body s0).bind k=some r) (H:S->RS) (H2:V->RS) (hb:∀s o,body s=some o->(∀w,o= .inr (.inr w)->k (.inr w)=some r)->Wp P N c (H s).st (lR id H H2 o (IH (λE'=>Wp P N y E' Q) Q))) (h2:∀v,k (.inl v)=some r->Wp P N y (H2 v).st Q) (h0:(H s0).in E=true:=by kernel_rfl) (hn:(H s0).nf E=(H s0).st:=by kernel_rfl):Wp P N (.seq (.block id<|.loop c) y) E Q:=Wp.seq<|ADw h ⟨h0,hn⟩ hb λv hv E' hE=>A7 hE<|h2 v hv
theorem en {a v:V} (h:some v=some a) (hb:(H v).in E=true:=by kernel_rfl) (hn:(H v).nf E=(H v).st:=by kernel_rfl):∃a',some a=some a'/\Xg (H a') E:=by
 injection h with h
 subst h;exact⟨_,rfl,hb,hn⟩
theorem em {a:V⊕W} {v:V} (h:some (.inl v)=some a) (hb:(H v).in E=true:=by kernel_rfl) (hn:(H v).nf E=(H v).st:=by kernel_rfl):∃a',a.getLeft? =some a'/\Xg (H a') E:=by
 injection h with h
 subst h;exact⟨_,rfl,hb,hn⟩
theorem el {H:S->RS} {o:S⊕W} {s:S} (h:some (.inl s)=some o) (hb:(H s).in E=true:=by kernel_rfl) (hn:(H s).nf E=(H s).st:=by kernel_rfl):∃s,o= .inl s/\Xg (H s) E:=by
 injection h with h
 subst h;exact⟨_,rfl,hb,hn⟩
theorem ex {o:S⊕(V⊕W)} {v:V} (h:some (.inr (.inl v))=some o) (hb:(H v).in E=true:=by kernel_rfl) (hn:(H v).nf E=(H v).st:=by kernel_rfl):∃v,o= .inr (.inl v)/\Xg (H v) E:=by
 injection h with h
 subst h;exact⟨_,rfl,hb,hn⟩
theorem ev {o:S⊕V} {v:V} (h:some (.inr v)=some o) (hb:(H v).in E=true:=by kernel_rfl) (hn:(H v).nf E=(H v).st:=by kernel_rfl):∃v,o= .inr v/\Xg (H v) E:=by
 injection h with h
 subst h;exact⟨_,rfl,hb,hn⟩
def ACu (P:Program) (N:Nat) (ops:Array Oper) (ts mv dn:List Nat) (E:St) (X:RS):Bool:=match tD P N ops ts mv (ops.size+1) dn E with
 |some L=>L.all λE'=>X.in E'
 |none=>false
theorem AAK {ts:List Nat} {mv:List Nat} (hb:ACu P N ops ts mv dn E X=true) (hn:(wR P N ops ts mv dn E).map X.nf=(wR P N ops ts mv dn E).map λ_=>X.st) (hq:∀E',Xg X E'->Q .normal E'):KW P N ops ts dn E Q:=by
 unfold ACu at hb;split at hb
 ·rename_i L hL
  refine pK hL λE' hE=>hq E' ⟨List.all_eq_true.1 hb E' hE,?_⟩
  simp_all [wR]
 cases hb
section
variable {ts:List Nat}
theorem uQ {Q0:Exit->St->Prop} {a v:V} (mv:List Nat) (h:some v=some a) (hb:ACu P N ops ts mv dn E (H v)=true:=by kernel_rfl) (hn:(wR P N ops ts mv dn E).map (H v).nf=(wR P N ops ts mv dn E).map (λ_=>(H v).st):=by kernel_rfl):KW P N ops ts dn E (jR H (some a) Q0):=
 AAK hb hn λE' hE=>by
  injection h with h
  subst h;exact⟨_,rfl,hE⟩
end
theorem rk (k:Nat) (h:RW P N ops (i+k) (OO P N ops k 0 i E) Q) (hk:(Q6 P N ops k 0 i E).isSome=true:=by kernel_rfl):RW P N ops i E Q:=AAa k 0 h hk
theorem AAB (a b:Nat):Nat.ble a (b+(a-b))=true:=by rw[ABB];omega
theorem gm (m:Nat) (h:Q .normal (OO P N ops (ops.size-i) m i E)) (hk:(Q6 P N ops (ops.size-i) m i E).isSome=true:=by kernel_rfl):RW P N ops i E Q:=AAa (ops.size-i) m (RW.nil h<|AAB _ _) hk
theorem g0 (h:Q .normal (OO P N ops (ops.size-i) 0 i E)) (hk:(Q6 P N ops (ops.size-i) 0 i E).isSome=true:=by kernel_rfl):RW P N ops i E Q:=gm 0 h hk
section
variable {id:Nat}
theorem wm (m:Nat) (h:RW P N ops2 0 (OO P N ops (ops.size-i) m i E) (IH (λE'=>Wp P N y E' Q) Q)) (hk:(Q6 P N ops (ops.size-i) m i E).isSome=true:=by kernel_rfl):RW P N ops i E (IH (λE'=>Wp P N (.seq (.region id ops2 false) y) E' Q) Q):=gm m (ws h) hk
end
section
variable {id:Nat}
theorem w0 (h:RW P N ops2 0 (OO P N ops (ops.size-i) 0 i E) (IH (λE'=>Wp P N y E' Q) Q)) (hk:(Q6 P N ops (ops.size-i) 0 i E).isSome=true:=by kernel_rfl):RW P N ops i E (IH (λE'=>Wp P N (.seq (.region id ops2 false) y) E' Q) Q):=wm 0 h hk
end
section
variable {id:Nat}
theorem wg (h:IH (λE'=>Wp P N y E' Q) Q .normal (OO P N ops (ops.size-0) 0 0 E)) (hk:(Q6 P N ops (ops.size-0) 0 0 E).isSome=true:=by kernel_rfl):Wp P N (.seq (.region id ops false) y) E Q:=ws<|g0 h hk
end
section
variable {x:Code}
theorem qs (h:Wp P N x E (IH (λE'=>Wp P N y E' Q) Q)):Wp P N (.seq x y) E Q:=Wp.seq h
end
theorem qk (h:Q .normal E):Wp P N .skip E Q:=Wp.skip h
theorem qt (h:Q .ret E):Wp P N .ret E Q:=Wp.ret h
theorem qx {id:Nat} (h:Q (.exit id) E):Wp P N (.exit id) E Q:=Wp.exit h
theorem qb {id:Nat} (h:Wp P N c E (VJ id Q)):Wp P N (.block id c) E Q:=Wp.block h
theorem qr {id:Nat} (h:RW P N ops 0 E Q):Wp P N (.region id ops false) E Q:=ACa h
section
variable {id:Nat}
theorem qd {Q1:Exit->St->Prop} (h:Wp P N c E (VJ id (IH (λE'=>Wp P N y E' Q1) Q1))):Wp P N .skip E (IH (λE'=>Wp P N (.seq (.block id c) y) E' Q1) Q1):=qk<|qs<|qb h
end
section
variable {id:Nat}
theorem qw (h:IH (λE'=>Wp P N y E' (IH (λE'=>Wp P N z E' Q) Q)) (IH (λE'=>Wp P N z E' Q) Q) .normal (OO P N ops (ops.size-0) 0 0 E)) (hk:(Q6 P N ops (ops.size-0) 0 0 E).isSome=true:=by kernel_rfl):Wp P N (.seq (.seq (.region id ops false) y) z) E Q:=qs<|wg h hk
end
section
variable {id:Nat}
theorem qv (h:RW P N ops 0 E (IH (λE'=>Wp P N y E' (IH (λE'=>Wp P N z E' Q) Q)) (IH (λE'=>Wp P N z E' Q) Q))):Wp P N (.seq (.seq (.region id ops false) y) z) E Q:=qs<|ws h
end
theorem wq {id:Nat} (h:Q .ret (OO P N ops (ops.size-0) 0 0 E)) (hk:(Q6 P N ops (ops.size-0) 0 0 E).isSome=true:=by kernel_rfl):Wp P N (.seq (.region id ops false) .ret) E Q:=wg (qt h) hk
theorem aq (hp:AG P E (oA ops i)=some s) (h:RW P N ops (i+1) (E.put (oA ops i).dst s) Q) (hk:wG P N ops i E=true:=by kernel_rfl):RW P N ops i E Q:=ACN hp h hk
theorem ED (k:Nat) (hp:AG P (OO P N ops k 0 i E) (oA ops (i+k))=some s) (h:RW P N ops (i+k+1) ((OO P N ops k 0 i E).put (oA ops (i+k)).dst s) Q) (hk:(Q6 P N ops k 0 i E).isSome=true:=by kernel_rfl) (hq:wG P N ops (i+k) (OO P N ops k 0 i E)=true:=by kernel_rfl):RW P N ops i E Q:=AAa k 0 (ACN hp h hq) hk
theorem kq {ts:List Nat} (i:Nat) (hp:AG P E (oA ops i)=some s) (h:KW P N ops ts (i::dn) (E.put (oA ops i).dst s) Q) (hk:(wG P N ops i E&&sL ops ts dn i)=true:=by kernel_rfl):KW P N ops ts dn E Q:=AEq i hp h hk
theorem ac {l:List AV} {x:Option α} (h:x.bind kk=some r) {enc:α->SV} (a:∀v,x=some v->AC P (Rl (oA ops i)) l (enc v) (List.replicate n .gone)) (hk:∀v,kk v=some r->RW P N ops (i+1) ((clE P E (oA ops i) 0).put (oA ops i).dst (enc v)) Q) (b:eE P E (oA ops i) 0=some l:=by kernel_rfl) (hc:shB P E (oA ops i) 0=true\/∀v,Bw (enc v)=false:=by exact .inl<|by kernel_rfl) (ho:(Sl P ops E i&&VF P N (oA ops i))=true:=by kernel_rfl):RW P N ops i E Q:=RW.c 0 h a (λv _=>hk v) b hc ho
theorem BT {l:List AV} {x:Option α} (k:Nat) (h:x.bind kk=some r) {enc:α->SV} (a:∀v,x=some v->AC P (Rl (oA ops (i+k))) l (enc v) (List.replicate n .gone)) (hk:∀v,kk v=some r->RW P N ops (i+k+1) ((clE P (OO P N ops k 0 i E) (oA ops (i+k)) 0).put (oA ops (i+k)).dst (enc v)) Q) (hr:(Q6 P N ops k 0 i E).isSome=true:=by kernel_rfl) (b:eE P (OO P N ops k 0 i E) (oA ops<|i+k) 0=some l:=by kernel_rfl) (hc:shB P (OO P N ops k 0 i E) (oA ops<|i+k) 0=true\/∀v,Bw (enc v)=false:=by exact .inl<|by kernel_rfl) (ho:(Sl P ops (OO P N ops k 0 i E) (i+k)&&VF P N (oA ops<|i+k))=true:=by kernel_rfl):RW P N ops i E Q:=AAa k 0 (RW.c 0 h a (λv _=>hk v) b hc ho) hr
section
variable {ts:List Nat}
theorem Ic {l:List AV} {x:Option α} (m:Nat) (h:x.bind kk=some r) {enc:α->SV} (a:∀v,x=some v->AC P (Rl (oA ops i)) l (enc v) (List.replicate n .gone)) (hk:∀v,kk v=some r->KW P N ops ts (i::dn) ((clE P E (oA ops i) m).put (oA ops i).dst (enc v)) Q) (b:eE P E (oA ops i) m=some l:=by kernel_rfl) (hc:shB P E (oA ops i) m=true\/∀v,Bw (enc v)=false:=by exact .inl<|by kernel_rfl) (ho:(Sl P ops E i&&VF P N (oA ops i)&&((bits m<|FR<|oA ops i).all (λx=>!x.1)||ts.contains i))=true:=by kernel_rfl):KB P N ops ts dn i E Q:=KB.c m h a (λv _=>hk v) b hc ho
end
theorem r9 {fin:α->List TV} {l:List AV} {x:Option α} (h:x.bind kk=some r) {enc:α->SV} {a:List TV} (c:∀v,x=some v->AC P (Rl (oA ops i)) (.ext a::l) (enc v) (.ext (fin v)::List.replicate n .gone)) (hk:∀v,kk v=some r->RW P N ops (i+1) (((E.setRoot (zG E (oA ops i)) (fin v)).bump (zG E (oA ops i))).put (oA ops i).dst (enc v)) Q) (b:∀v,(fin v).length=a.length:=by exact λ_=>rfl) (d:ABi P E (oA ops i)=some l:=by kernel_rfl) (hb:E.boxes (zG E<|oA ops i)=some a:=by kernel_rfl) (hc:cxB P E (oA ops i)=true\/∀v,Bw (enc v)=false/\A9 (fin v)=false:=by exact .inl<|by kernel_rfl) (ho:(Sl P ops E i&&VF P N (oA ops i)&&ABh E (oA ops i))=true:=by kernel_rfl):RW P N ops i E Q:=ADL h c b (λv _=>hk v) d hb hc ho
theorem Db {tx ty:Option β} {b:Bool} (k t:Nat) (h:(bif b then tx else ty)=some r) (ht:tx=some r->RW P N ops (i+k) ((OO P N ops k 0 i E).rs t true) Q) (hf:ty=some r->RW P N ops (i+k) ((OO P N ops k 0 i E).rs t false) Q) (hr:(Q6 P N ops k 0 i E).isSome=true:=by kernel_rfl) (hc:(OO P N ops k 0 i E).slots t=B b:=by kernel_rfl):RW P N ops i E Q:=AAa k 0 (ADI t h ht hf hc) hr
def Zp (fn:Func):Code:=fn.body.getD .skip
theorem VI (h:fn.body.isSome=true):fn.body=some (Zp fn):=by
 unfold Zp
 cases e:fn.body with
 |none=>grind
 |some c=>rfl
theorem gf {a:SV} (hf:P.funcs[f]?=some fn) (hN:fn.ntmps=N) (h:Wp P N (Zp fn) (CQ as) λe E=>(e= .normal\/e= .ret)/\∃ss E',Dm P E fn.results.toList=some (ss,E')/\D6 ss=a) (hb:fn.body.isSome=true:=by kernel_rfl):AC P f as a (List.replicate as.length .gone):=gk hf (VI hb) hN h
theorem gfa {A':Ql} (hf:P.funcs[f]?=some fn) (hN:fn.ntmps=N) (hB:∀l l',(Am l).B=(Am l').B/\(Am l).pin=none) (h:Wp P N (Zp fn) (CQ as (Am xl)) λe E=>(e= .normal\/e= .ret)/\E.amb=A') (hb:fn.body.isSome=true:=by kernel_rfl) (hr:fn.results= #[]:=by rfl):L7 P f (Am xl) as A':=tX hf (VI hb) hr (hB xl xl).2 (by rw[hN];exact h)
theorem gfx {a cells':List TV} {b:SV} (hf:P.funcs[f]?=some fn) (hN:fn.ntmps=N) (h:Wp P N (Zp fn) (CQ (.ext a::as)) λe E=>(e= .normal\/e= .ret)/\∃ss E',Dm P E fn.results.toList=some (ss,E')/\D6 ss=b/\E'.boxes (.ext 0)=some cells') (hb:fn.body.isSome=true:=by kernel_rfl) (c:cells'.isEmpty=false:=by rfl):AC P f (.ext a::as) b (.ext cells'::List.replicate as.length .gone):=gkx hf (VI hb) hN h c
theorem AEg (h:Xg X E) {a:List TV} (hc:X.st.boxes (.ext 0)=some a:=by kernel_rfl):(Exit.normal= .normal\/Exit.normal= .ret)/\∃ss E1,Dm P E []=some (ss,E1)/\D6 ss= .tup []/\E1.boxes (.ext 0)=some a:=by
 refine⟨.inl rfl,[],E,rfl,rfl,?_⟩;obtain⟨h1,h2⟩:=h;rw[<-h2]at hc;unfold RS.nf at hc;by_cases hm:(X.b.map Prod.fst).contains (.ext 0)=true
 ·have e:(L0 E (X.s.map Prod.fst)<|X.b.map Prod.fst).boxes (.ext 0)=some ((E.boxes<|.ext 0).getD []):=by
   show((X.b.map Prod.fst).map λr=>(r,(E.boxes r).getD [])).lookup (.ext 0)=_;rw[LU (f:=λr=>(E.boxes r).getD []),Bv hm]
  rw[e]at hc;unfold RS.in at h1
  cases he:E.boxes (.ext 0)with
  |none=>grind
  |some v=>grind
 have e:(L0 E (X.s.map Prod.fst)<|X.b.map Prod.fst).boxes (.ext 0)=none:=by
  show((X.b.map Prod.fst).map λr=>(r,(E.boxes r).getD [])).lookup (.ext 0)=_
  grind
 grind
theorem AAV {Am:α->Ql} {v r:α} (h:some v=some r) (hE:Xg X E) (hX:X.st.amb=Am v:=by kernel_rfl):(Exit.normal= .normal\/Exit.normal= .ret)/\E.amb=Am r:=by
 injection h with h
 rw[<-h,<-hX,<-hE.2];exact⟨.inl rfl,rfl⟩
section
variable {w0:Base} {a:Act}
theorem Ce.storeKeep {r:Root} {t:TypeId} (h:Ce w0 FA UA N w a E blk FS US) {ad:Addr} {cs i xs:List TV} {v:Value} (hr:E.root r=some cs) (hc:Bq cs q=some i) (ho:Kq cs q=true) (m:pa w a blk r q j=some ad) (hx:Bk w xs v.cells.toList (FS .hand) (US .hand)) (n:0<xs.length) (p:j+xs.length<=i.length) (ht:xs.length=P.cellsOf t) (hm:r.mem=true) (hq:q≠ []) (s:(storeVar t ad v).run P w= .ok () w'):w'.heap[blk r]?=w.heap[blk r]? :=by
 have y:r≠ .hand:=by rintro rfl;cases hm
 have z:=C0 hx;have a1:v.cells.size=xs.length:=by simpa using z
 have u:=TZ hx;have f:=h.nodup r
 cases q with
 |nil=>exact absurd rfl hq
 |cons c q=>
  have k:∃o e sz cells,cs[c]?=some (TV.sl o e sz cells)/\Bq cells q=some i/\(o&&Kq cells q)=true:=by grind [Bq,Kq]
  obtain⟨o,e,sz,cells,h0,h5,h6⟩:=k;have d:E.boxes r=some cs:=by simp_all [St.root,Root.mem];grind
  rcases h.box r hm with⟨h1,_⟩|⟨cs',cur0,T0,F,h1,h2,h3,h4⟩
  ·grind
  rw[h1]at d
  injection d with d
  subst d;obtain⟨hv,A,B,C,D,F1,U1,k1,k2,rfl,kU,k3⟩:=Gu c h3 h0;have h7:AX w a blk r c=some hv:=by
   have:AX w a blk r c=w.cell? ((⟨blk r,0,none⟩:Addr).add c):=by cases r<;>simp_all [AX,Root.mem]
   grind [World.cell?,Addr.add]
  rw[h4,C4]at f;have x:F1.Nodup:=(R8 f.2).1
  have l:∀b∈F1,b∈FS r:=λb hb=>by grind
  have h8:∀b∈U1,b∈US r:=λb hb=>by grind
  simp only[pa,h7,Aa]at m;obtain⟨ad0,h9,rfl⟩:=AB.1 m;obtain⟨g,T,a2,X,Fm,Y,Xu,Um,Yu,a0,hg,a3,rfl,rfl,a4,_⟩:=XI k2 h6 h5 h9 hx n p x (λb hb e=>h.dis r .hand y b (l b e) hb) λb hb e=>hb.elim (λhb=>h.disU r r b (l b e)<|h8 b hb) λhb=>h.disU r .hand b (l b e) hb;have a5:g≠blk r:=by grind
  rw[a0,TU hg (by omega) (by omega) (by omega) u]at s
  grind [setRow_other]
end
section
variable {a:Act}
theorem ACt {r:Root} (hm:r.mem=true) (hh:w'.heap[blk r]?=w.heap[blk r]?) (c k:Nat) {ad:Addr} (h:pa w a blk r [c] k=some ad):pa w' a blk r [c] k=some ad:=by
 have:AX w' a blk r c=AX w a blk r c:=by
  cases r with
  |slot n=>cases hm
  |hand=>cases hm
  |box n=>exact Rn<|by grind [Ja]
  |ext n=>exact Rn<|by grind [Ja]
 have hb:∀v,Lu w' v []=Lu w v []:=λv=>by
  unfold Lu;split<;>rfl
 grind [pa]
end
theorem zJ {c:Nat} {cs a xs:List TV} (hq:q≠ []) (hc:Bq cs q=some a) (f:j+xs.length<=a.length) (h:((Bq cs [c]).bind λa=>a[k]?).isSome=true):((Bq (C9 cs q λa=>setRow a j xs) [c]).bind λa=>a[k]?).isSome=true:=by
 cases q with
 |nil=>exact absurd rfl hq
 |cons c' q=>
  simp only[Bq]at hc;split at hc
  ·rename_i o e sz b d;simp only[C9,d,Bq]at h⊢;rw[Nb];by_cases he:c'=c
   ·subst he;rw[d]at h;have g:=(Ae.1 d).1;rw[Bv rfl,Bv g];have hl:(C9 b q λa=>setRow a j xs).length=b.length:=by
     cases q with
     |nil=>
      simp only[Bq,Ar]at hc;subst hc;exact D1 f
     |cons c q=>grind [C9]
    grind
   grind
  cases hc
theorem wJ {a:Act} (h:n<a.tmps.size):a.put (some n) (a.eval (.tmp n))=a:=by
 unfold Act.put Act.eval;simp only;congr 1;simp_all;grind
def reP (E:St) (n:Nat) (r:Root) (c k:Nat):St:=E.put (some n)<|.one<|.ptr r (E.ver r) [c] k
def ADc (P:Program) (N:Nat) (E:St) (o:Oper) (n:Nat) (r:Root) (c k:Nat):Prop:=yN o=true/\N8 P E o=some (sN P E o,E)/\(∃q j,E.ptr? (KT o).2.1=some (r,q,j)/\q≠ [])/\r.mem=true/\E.ptr? (.tmp n)=some (r,[c],k)/\n<N
section
variable {w0:Base} {a:Act}
theorem Ce.storeP {c:Nat} {r:Root} (h:Ce w0 FA UA N w a E blk FS US) (hF:FS .hand=[]) (hU:US .hand=[]) (he:Cf P N false E o=some E') (hk:ADc P N E o n r c k):D0 P w0 FA UA N w a o (reP E' n r c k):=by
 obtain⟨c1,c2,⟨q,j,c3,c4⟩,c5,c6,c7⟩:=hk;obtain⟨ho,hd⟩:=rH c1;have he:Ov P E (KT o).1 (KT o).2.1 (KT o).2.2=some E':=by grind [Cf]
 have c2':N8 P E o=some (sN P E o,E):=c2;unfold N8 at c2';generalize sN P E o=xs at c2';generalize KT o=z at*;obtain⟨t,ad,x⟩:=z;unfold Ov at he;split at c2'
 ·rename_i s hs;rw[hs]at he;simp only[c2',c3]at he;split at he
  ·rename_i cs hr;split at he
   ·rename_i p hc;split at he
    ·rename_i l;obtain⟨b,e,f,g⟩:=l;obtain⟨U,h1,h2⟩:=K6 h hs;obtain⟨FS1,US1,F1,U1,h3,h4,h5,h6,_,_⟩:=I2 h h1 h2 c2';rw[hF,Av]at h5;rw[hU,Av]at h6;subst h5 h6;obtain⟨_,adr,h7,h8⟩:=HE h4 c3;rw[AT λhh=>c4 (by cases q<;>simp_all)]at he
     injection he with he
     obtain⟨w',FS',US',h9,h10,h11,h12⟩:=XJ (P:=P) h4 hr hc b h7 h3 f g e<|.inl he.symm;have m:=h4.storeKeep hr hc b h7 h3 f g e c5 c4 h9;obtain⟨p1,ad2,p2,p3⟩:=HE h4 c6;have hN:=AE c7 h10.len;have u:E'.root r=some (C9 cs q λp=>setRow p j xs):=by grind [Mp,KU]
     have y:(E'.place r [c] k).isSome=true:=by simp_all [zJ,St.place]
     have i:=h10.put (d:=n) (s:= .one (.ptr r (E'.ver r) [c] k)) (v:=a.eval<|.tmp n) (F:=[]) (U:=[]) c7 (by
      simp only[H8,Do];refine⟨⟨trivial,trivial,?_,λ_=>⟨y,ad2,ACt c5 m c k p2,p3⟩⟩,λ_=>?_⟩
      ·exact Ax _
      rw[p3];rfl) WS.none
     rw[wJ hN]at i;refine⟨.skip,w',undef,blk,_,_,?_,.inr ⟨rfl,rfl⟩,by rw[hd];exact i,by grind [AQ],by grind [AQ],λhk=>by grind [kp]⟩;simp_all [execOp,Instr.storeAt,Instr.sureAddr]
    cases he
   cases he
  cases he
 cases c2'
end
theorem ACS {c:Nat} {r:Root} {rest:List Oper} (hg:AR P ops E o=some true) (hs:Cf P N false E o=some E') (hk:ADc P N E o n r c k) (h:FB P N ops rest (reP E' n r c k) Q):FB P N ops (o::rest) E Q:=by
 intro w0 FA UA w a blk FS US hr hF hU;simp only[wpList,BB hr hg,Co];exact .inl<|(hr.storeP hF hU hs hk).wp λw' v blk' FS' US' k1 k2 k3 _=>h _ _ _ _ _ _ _ _ k1 k2 k3
theorem ADJ (n c k:Nat) (r:Root) (q:List Nat) (j:Nat) (hs:Cf P N false E (oA ops i)=some E') (h:RW P N ops (i+1) (reP E' n r c k) Q) (hq:E.ptr? (KT (oA ops i)).2.1=some (r,q,j):=by kernel_rfl) (hn:E.ptr? (.tmp n)=some (r,[c],k):=by kernel_rfl) (hk:(yN (oA ops i)&&!q.isEmpty&&r.mem&&Nat.blt n N)=true:=by rfl) (ht:N8 P E (oA ops i)=some (sN P E<|oA ops i,E):=by rfl) (ho:Sl P ops E i=true:=by kernel_rfl):RW P N ops i E Q:=by
 obtain⟨h1,h2⟩:=GM ho;simp only[Ao,CG,Es]at hk;obtain⟨⟨⟨k1,k2⟩,k3⟩,k4⟩:=hk;unfold RW;rw[Fq h1];exact ACS h2 hs ⟨k1,ht,⟨q,j,hq,by rintro rfl;cases k2⟩,k3,hn,k4⟩ h
theorem mR {md:Region.Mode} {Q:Exit->Act->World->Prop} {T:Nat->Bool} {oi:Oper} {v:Value} (hi:ops[i]?=some oi) (l:∀(j:Nat) (o:Oper) cs b,ops[j]?=some o->o.op≠ .select cs b) (hQ:∀c a w,Q (.panic c) (a.put oi.dst v) w->Q (.panic c) a w):
  ∀(d:Nat) (listed:Array Bool) (a:Act) (w:World),
   (∀j oj,ops[j]?=some oj->j≠i->listed.getD j true=false->(∀e∈oj.after,Region.binds md e=true->e.on≠i)->oi.apart ops oj=true)->
   i∈Region.ready md ops listed->YieldsIf P ops (λ_=>True) oi v a->
   S8 P md ops Q T d (listed.setIfInBounds i true) (a.put oi.dst v) w->S8 P md ops Q T (d+1) listed a w:=by
 intro d
 induction d with
 |zero=>
  intro listed a w _ hr hy H;refine⟨λh=>(by grind),λj hj=>?_⟩;by_cases f:j=i
  ·subst f;exact hy.wpOp hi trivial ⟨λ_=>Dr.refl,H⟩
  have:=ready_mono hj f;rw[H.1]at this;cases this
 |succ d ih=>
  intro listed a w g hr hy H;refine⟨λh=>(by grind),λj hj=>?_⟩;by_cases f:j=i
  ·subst f;exact hy.wpOp hi trivial ⟨λ_=>Dr.refl,H⟩
  have h1:=H.2 j<|ready_mono hj f;obtain⟨m,oj,n,p⟩:=mem_ready.1 hj;have q:listed.getD i false=false:=by
   have h0:=(mem_ready.1 hr).1
   rcases E9 i listed.size with h'|h'
   ·simpa[h']using h0
   grind
  have r:∀e∈oj.after,Region.binds md e=true->e.on≠i:=λe he hb u=>by
   have h1:=p e he hb;rw[u,q]at h1;cases h1
  have h2:=wpOp_putIf n (g j oj n f m r) (λcs b=>l i oi cs b hi) (λcs b=>l j oj cs b n) hQ hy h1;have hfree':∀k ok,ops[k]?=some ok->k≠i->(listed.setIfInBounds j true).getD k true=false->
    (∀e∈ok.after,Region.binds md e=true->e.on≠i)->oi.apart ops ok=true:=λk ok hk x s y=>by
   refine g k ok hk x ?_ y;by_cases t:j=k
   ·subst t;exact m
   rw[getD_set_ne true t]at s;exact s
  refine wpOp_mono (λa' w' h3=>⟨h3.2.1,ih (listed.setIfInBounds j true) a' w' hfree' (ready_mono hr<|Jj f) ?_ ?_⟩) h2
  ·exact h3.1
  rw[Array.setIfInBounds_comm _ _ f];exact h3.2.2
def oS (o:Oper):Bool:=match o.op with
 | .move _| .assign _=>true
 |_=>false
theorem oR {w2:World} (h:oS o=true) {a:Act} {v:Value} (hr:(execOp a.eval o).run P w= .ok (.value v) w):(execOp a.eval o).run P w2= .ok (.value v) w2:=by
 unfold oS at h;unfold execOp at hr⊢;split at h
 ·rename_i x hx;simp only[hx]at hr⊢
  injection hr with hr
  injection hr with hr
  rw[hr];rfl
 ·rename_i x hx;simp only[hx]at hr⊢
  injection hr with hr
  injection hr with hr
  rw[hr];rfl
 cases h
def aok (P:Program) (N:Nat) (ops:Array Oper) (dn:List Nat) (i:Nat) (E:St):Bool:=Sl P ops E i&&H3 N (oA ops i)&&Nat.blt dn.length ops.size&&Region.noSelect ops&&Region.free .any ops (yC ops.size dn) i&&(Region.ready .any ops<|yC ops.size dn).contains i&&oS (oA ops i)&&(GP P E<|oA ops i).isSome
theorem KW.a {ts:List Nat} (i:Nat) (h:KW P N ops ts (i::dn) (E.put (oA ops i).dst ((GP P E (oA ops i)).getD (.one .junk))) Q) (hk:aok P N ops dn i E=true:=by kernel_rfl):KW P N ops ts dn E Q:=by
 simp only[aok,Ao]at hk;obtain⟨⟨⟨⟨⟨⟨⟨h1,h2⟩,h3⟩,e1⟩,e2⟩,e3⟩,e4⟩,e5⟩:=hk;obtain⟨h5,h6⟩:=GM h1;obtain⟨d,h7,h8,_⟩:=DS h2;obtain⟨s,hs⟩:=L5.1 e5;rw[hs,Er,h7]at h;unfold KW at h⊢;rw[RD (i:=i) h3];have ho:=Iz h5;intro hQ hc w0 FA UA w a blk FS US k1 k2 k3;obtain⟨v,U,y1,y2,y3⟩:=SC k1 hs;have e3':i∈Region.ready .any ops (yC ops.size dn):=by simpa using e3
 refine mR (v:=v) ho (Region.noSelect_spec e1) (λc a w hx=>?_) _ (yC ops.size dn) a w (Region.free_spec ho e2) e3' (.inl ⟨BB k1 h6,λw2 _=>?_⟩) ?_
 ·obtain⟨E',blk',FS',US',m1,_⟩:=hx
  grind
 ·exact oR e4<|y1 w λr _=>⟨λ_ _=>rfl,λ_ _=>rfl⟩
 rw[h7];refine h hQ (IB hc e3') _ _ _ _ _ _ _ _ (k1.put (by simpa[Es]using h8) y2<|Mn k1 y3 _) ?_ ?_
 ·rw[AQ (by simp),k2]
 rw[AQ (by simp),k3]
theorem MV {n:Int} (h1: -9223372036854775808<=n) (h2:n<=9223372036854775807):IntKind.i64.wrap n=n:=by rw[IntKind.wrap_i64];omega
theorem BW {a b:Int} (h1: -9223372036854775808<=a+b:=by omega) (h2:a+b<=9223372036854775807:=by omega):ad a b=a+b:=MV h1 h2
theorem BD {a b:Int} (h1: -9223372036854775808<=a-b:=by omega) (h2:a-b<=9223372036854775807:=by omega):sb a b=a-b:=MV h1 h2
theorem Oe {a b:Int} (h1: -9223372036854775808<=a*b) (h2:a*b<=9223372036854775807):ml a b=a*b:=MV h1 h2
theorem ad1 (h:i<9223372036854775807:=by omega):ad (i:Int) 1=((i+1:Nat):Int):=by grind [BW]
theorem Jo (a b:ByteArray):seq a b=decide (a=b):=by
 unfold seq;rw[Bool.eq_iff_iff,JW,Bc];constructor
 ·intro h;rw[ByteArray.toList_eq,ByteArray.toList_eq]at h;cases a;simp_all
 intro h;rw[h]
theorem Ap:gi l (i:Int)=l[i]? :=by rfl
theorem Dk {x:α}:si l (i:Int) x=l.set i x:=by simp[si]
theorem GR:decide ((i:Int)<ln l)=decide (i<l.length):=by
 simp[ln]
theorem cF [Decidable p] {a b:α} (h:¬p:=by omega):cond (decide p) a b=b:=by grind
theorem cT [Decidable p] {a b:α} (h:p:=by omega):cond (decide p) a b=a:=by grind
theorem CM {a b:β}:cond (decide (((l.length:Nat):Int)<ln l)) a b=b:=cF (by rw[ln];omega)
theorem Da {a b:β} (h:i<l.length):cond (decide ((i:Int)<ln l)) a b=a:=cT (by rw[ln];omega)
def Qb (step:σ->Nat->α->σ⊕β) (fin:σ->β):List α->Nat->σ->β
 |[],_,s=>fin s
 |x::l,i,s=>match step s i x with
  | .inl s'=>Qb step fin l (i+1) s'
  | .inr b=>b
theorem cU {body:S->Option (S⊕β)} (a:σ->Int->S) (l:List α) (step:σ->Nat->α->σ⊕β) (fin:σ->β) (c:Nat->σ->Prop) (h1:∀s i x,l[i]?=some x->c i s->body (a s (i:Nat))=some (match step s i x with| .inl s'=> .inl (a s' ((i+1:Nat):Int))| .inr b=> .inr b)/\∀s',step s i x= .inl s'->c (i+1) s') (h2:∀s,c l.length s->body (a s (l.length:Nat))=some (.inr (fin s))):∀(n i:Nat) (s:σ),i+n=l.length->c i s->Ai body (a s (i:Nat))=some (Qb step fin (l.drop i) i s)
 |0,i,s,hi,hs=>by
  have:i=l.length:=by omega
  subst this;rw[Au,h2 s hs,FC<|Ax _];rfl
 |n+1,i,s,hi,hs=>by
  have d:i<l.length:=by omega
  obtain⟨h3,h4⟩:=h1 s i l[i] (Ab d) hs;rw[Au,h3,A6 d,Qb]
  cases e:step s i l[i]with
  |inl s'=>simp only[];exact cU a l step fin c h1 h2 n (i+1) s' (by omega)<|h4 s' e
  |inr b=>rfl
theorem Pa {s:σ} {body:S->Option (S⊕β)} (a:σ->Int->S) (l:List α) (step:σ->Nat->α->σ⊕β) (fin:σ->β) (c:Nat->σ->Prop) (h1:∀s i x,l[i]?=some x->c i s->body (a s (i:Nat))=some (match step s i x with| .inl s'=> .inl (a s' ((i+1:Nat):Int))| .inr b=> .inr b)/\∀s',step s i x= .inl s'->c (i+1) s') (h2:∀s,c l.length s->body (a s (l.length:Nat))=some (.inr (fin s))) (hs:c 0 s):Ai body (a s 0)=some (Qb step fin l 0 s):=
 cU a l step fin c h1 h2 l.length 0 s (by omega) hs
def zl (z:α->Nat) (l:List α):Nat:=l.length+(l.map z).sum
theorem mP {z:α->Nat} {x:α} (h:x∈l):z x+1<=zl z l:=by
 unfold zl
 induction l with
 |nil=>cases h
 |cons y l ih=>grind
theorem UY {z:α->Nat}:l.length<=zl z l:=by unfold zl;omega
theorem rX {body:Int->Option (Int⊕Unit⊕Bool)} (a:List α) (b:List β) (p:α->β->Bool) (hl:a.length=b.length) (hM:a.length<=9223372036854775807) (h1:∀(i:Nat) x y,a[i]?=some x->b[i]?=some y->body (i:Nat)=some (bif p x y then .inl (((i+1:Nat)):Int)else .inr (.inr false))) (h2:body (a.length:Nat)=some (.inr (.inl ()))):
  Ai body 0=some (bif(a.zip b).all (λz=>p z.1 z.2)then .inl ()else .inr false):=by
 have hz:(a.zip b).length=a.length:=by simp[hl]
 have:=Pa (body:=body) (λ(_:Unit) i=>i) (a.zip b) (λ_ _ z=>bif p z.1 z.2 then .inl ()else .inr<|.inr false) (λ_=> .inl ()) (λ_ _=>True)
  (λs i x hx _=>by grind)
  (λs _=>by rw[hz];exact h2) (s:=()) trivial
 rw[this];have c:∀(m:List (α×β)) (i:Nat),Qb (λ(_:Unit) _ z=>bif p z.1 z.2 then .inl ()else .inr<|.inr false) (λ_=>(.inl ():Unit⊕Bool)) m i ()=bif m.all (λz=>p z.1 z.2)then .inl ()else .inr false:=by
  intro m
  induction m with
  |nil=>intro i;rfl
  |cons z m ih=>grind [Qb]
 rw[c]
theorem pR {p:α->α->Bool}:∀{a b:List α},(∀x∈a,∀y∈b,p x y=true↔x=y)->a.length=b.length->((a.zip b).all (λz=>p z.1 z.2)=true↔a=b)
 |[],[],_,_=>by simp
 |x::a,y::b,hp,h=>by
  have ih:=pR (p:=p) (a:=a) (b:=b) (λx' hx y' hy=>hp x' (JX _ hx) y'<|JX _ hy) (by simpa using h);simp_all
 |[],_::_,_,h=>by simp at h
 |_::_,[],_,h=>by simp at h
theorem Uo {body:S->Option (S⊕β)} (a:σ->Int->S) (n:Nat) (c:Nat->σ->Prop) (Q:β->Prop) (h1:∀s i,i<n->c i s->(∃s',body (a s (i:Nat))=some (.inl (a s' ((i+1:Nat):Int)))/\c (i+1) s')\/∃b,body (a s (i:Nat))=some (.inr b)/\Q b) (h2:∀s,c n s->∃b,body (a s (n:Nat))=some (.inr b)/\Q b):∀(k i:Nat) (s:σ),i+k=n->c i s->∃b,Ai body (a s (i:Nat))=some b/\Q b
 |0,i,s,hi,hs=>by grind [Au]
 |k+1,i,s,hi,hs=>by
  rcases h1 s i (by omega) hs with⟨s',h3,h4⟩|⟨b,h3,h4⟩
  ·obtain⟨b,h5,h6⟩:=Uo a n c Q h1 h2 k (i+1) s' (by omega) h4
   grind [Au]
  grind [Au]
theorem A4 {s:σ} {body:S->Option (S⊕β)} (a:σ->Int->S) (n:Nat) (c:Nat->σ->Prop) (Q:β->Prop) (h1:∀s i,i<n->c i s->(∃s',body (a s (i:Nat))=some (.inl (a s' ((i+1:Nat):Int)))/\c (i+1) s')\/∃b,body (a s (i:Nat))=some (.inr b)/\Q b) (h2:∀s,c n s->∃b,body (a s (n:Nat))=some (.inr b)/\Q b) (hs:c 0 s):∃b,Ai body (a s 0)=some b/\Q b:=
 Uo a n c Q h1 h2 n 0 s (by omega) hs
theorem Vv {body body':S->Option (S⊕β)} (a:σ->Int->S) (n:Nat) (c:Nat->σ->Prop) (Q:β->Prop) (h1:∀s i,i<n->c i s->body' (a s (i:Nat))=body (a s (i:Nat))/\((∃s',body (a s (i:Nat))=some (.inl (a s' ((i+1:Nat):Int)))/\c (i+1) s')\/∃b,body (a s (i:Nat))=some (.inr b)/\Q b)) (h2:∀s,c n s->body' (a s (n:Nat))=body (a s (n:Nat))/\∃b,body (a s (n:Nat))=some (.inr b)/\Q b):∀(k i:Nat) (s:σ),i+k=n->c i s->∃b,Ai body (a s (i:Nat))=some b/\Ai body' (a s (i:Nat))=some b/\Q b
 |0,i,s,hi,hs=>by grind [Au]
 |k+1,i,s,hi,hs=>by
  obtain⟨e,h⟩:=h1 s i (by omega) hs
  rcases h with⟨s',h3,h4⟩|⟨b,h3,h4⟩
  ·obtain⟨b,h5,h6,h7⟩:=Vv a n c Q h1 h2 k (i+1) s' (by omega) h4
   grind [Au]
  grind [Au]
theorem Gw {s:σ} {body body':S->Option (S⊕β)} (a:σ->Int->S) (n:Nat) (c:Nat->σ->Prop) (Q:β->Prop) (h1:∀s i,i<n->c i s->body' (a s (i:Nat))=body (a s (i:Nat))/\((∃s',body (a s (i:Nat))=some (.inl (a s' ((i+1:Nat):Int)))/\c (i+1) s')\/∃b,body (a s (i:Nat))=some (.inr b)/\Q b)) (h2:∀s,c n s->body' (a s (n:Nat))=body (a s (n:Nat))/\∃b,body (a s (n:Nat))=some (.inr b)/\Q b) (hs:c 0 s):∃b,Ai body (a s 0)=some b/\Ai body' (a s 0)=some b/\Q b:=
 Vv a n c Q h1 h2 n 0 s (by omega) hs
theorem Y0 {body:Int->Option (Int⊕β)} (l:List α) (p:Nat->α->Bool) (no yes:β) (hM:l.length<=9223372036854775807) (h1:∀(i:Nat) x,l[i]?=some x->body (i:Nat)=some (bif p i x then .inl (((i+1:Nat)):Int)else .inr no)) (h2:body (l.length:Nat)=some (.inr yes)):
  Ai body 0=some (bif l.zipIdx.all (λz=>p z.2 z.1)then yes else no):=by
 have:=Pa (body:=body) (λ(_:Unit) i=>i) l (λ_ i x=>bif p i x then .inl ()else .inr no) (λ_=>yes) (λ_ _=>True)
  (λs i x hx _=>by grind)
  (λs _=>h2) (s:=()) trivial
 rw[this];have a:∀(m:List α) (i:Nat),Qb (λ(_:Unit) i x=>bif p i x then .inl ()else .inr no) (λ_=>yes) m i ()=bif(m.zipIdx i).all (λz=>p z.2 z.1)then yes else no:=by
  intro m
  induction m with
  |nil=>intro i;rfl
  |cons z m ih=>grind [List.zipIdx_cons,Qb]
 rw[a]
theorem QM {body:Int×List γ->Option ((Int×List γ)⊕List γ)} (l:List α) (f:α->γ) (h1:∀(i:Nat) x (a:List γ),l[i]?=some x->a.length=i->body ((i:Nat),a)=some (.inl (((i+1:Nat):Int),a++ [f x]))) (h2:∀a,body ((l.length:Nat),a)=some (.inr a)):
  Ai body (0,[])=some (l.map f):=by
 have:=Pa (body:=body) (λ(s:List γ) i=>(i,s)) l (λa _ x=>(.inl (a++ [f x]):List γ⊕List γ)) (λa=>a) (λi a=>a.length=i)
  (λs i x hx hi=>by grind)
  (λs _=>h2 s) (s:=[]) rfl
 rw[this];have b:∀(m:List α) (i:Nat) (a:List γ),Qb (λa _ x=>(.inl (a++ [f x]):List γ⊕List γ)) (λa=>a) m i a=a++m.map f:=by
  intro m
  induction m with
  |nil=>grind [Qb]
  |cons z m ih=>grind [Qb]
 grind
theorem nV {body:Int×List γ->Option ((Int×List γ)⊕List γ)} (n:Nat) (f:Nat->γ) (h1:∀(i:Nat) (a:List γ),i<n->a.length=i->body ((i:Nat),a)=some (.inl (((i+1:Nat):Int),a++ [f i]))) (h2:∀a,body ((n:Nat),a)=some (.inr a)):
  Ai body (0,[])=some ((List.range n).map f):=
 QM (List.range n) f (λi x a hx ho=>by grind) (λa=>by grind)
theorem Yx {z:α} (h:by_*n<=281474976710656) (h2:n<=9223372036854775807):mk by_ z (n:Int)=some (List.replicate n z):=by
 unfold mk
 grind
theorem AN {m:List α} (h:(l.length+m.length)*by_<=140737488355328):ap by_ l m=some (l++m):=Bv h
theorem Kd {i:Int} (h1:0<=i) (h2:i<l.length):gi l i=some (l[i.toNat]'(by omega)):=by
 unfold gi
 grind
theorem AY:ln l=(l.length:Int):=rfl
def L (s:ByteArray):List UInt8:=s.data.toList
theorem Jb {a b:ByteArray} (h:L a=L b):a=b:=by
 cases a;simp_all [L]
theorem Z7 (s:ByteArray):(L s).length=s.size:=by cases s;rfl
theorem EG (a b:ByteArray):L (a++b)=L a++L b:=by simp[L]
theorem CB (l:List UInt8):L (bs l)=l:=by simp[L,bs]
theorem K2 (l:List Int):L (DU l)=l.map λn=>UInt8.ofNat n.toNat:=strOfNums_data l
theorem Jc (s:ByteArray) (i j:Nat):L (s.extract i j)=((L s).drop i).take (j-i):=by simp[L]
theorem Ba (s:ByteArray):FU s=((L s).length:Int):=by rw[Z7];rfl
theorem DT (s:ByteArray) (h:i<(L s).length):sx s (i:Int)=some (((L s)[i]).toNat:Int):=by
 have h':i<s.size:=by grind [Z7]
 unfold sx;rw[Bv ⟨by omega,by omega⟩];unfold AG.bt;rw[dif_pos<|by simpa using h'];rfl
theorem EU (s:ByteArray) (h1:i<=j) (h2:j<=(L s).length):sub s (i:Int) (j:Int)=some (s.extract i j):=by grind [Z7,sub]
theorem E8 (a b:ByteArray) (h:(L a).length+(L b).length<=9223372036854775807):GI a b=some (a++b):=by grind [Z7,GI]
theorem PU (a b:ByteArray):seq a b=decide (L a=L b):=by grind [Jo,Jb]
def BL (n:Nat):List UInt8:=if h:n<=127 then [UInt8.ofNat n]else UInt8.ofNat (n %128+128)::BL (n/128)
termination_by n
decreasing_by omega
def ET:List UInt8->Nat
 |[]=>0
 |d::ds=>d.toNat %128+128*ET ds
theorem Nc:∀(ds es:List UInt8),ET (ds++es)=ET ds+128^ds.length*ET es
 |[],es=>by simp[ET]
 |d::ds,es=>by
  simp only[BX,ET,Nc ds es,AD,Nat.pow_succ]
  grind
theorem iI (d:UInt8):d.toNat<256:=d.toNat_lt
theorem MN (h:n<=127):BL n=[UInt8.ofNat n]:=by rw[BL,dif_pos h]
theorem UD (h:¬n<=127):BL n=UInt8.ofNat (n %128+128)::BL (n/128):=by rw[BL,dif_neg h]
theorem bB:∀{ds:List UInt8} {x:UInt8},ET (ds++ [x])=0->x.toNat<128->x.toNat=0
 |[],x,h,hx=>by grind [ET]
 |d::ds,x,h,hx=>by
  simp only[BX,ET]at h;exact bB (ds:=ds) (by omega) hx
theorem dF:∀(ds:List UInt8) (x:UInt8),(∀d∈ds,128<=d.toNat)->x.toNat<128->(BL (ET (ds++ [x]))=ds++ [x]↔¬(x.toNat=0/\ds≠ []))
 |[],x,_,hx=>by
  have:ET ([]++ [x])=x.toNat:=by simp[ET];omega
  rw[this,MN<|by omega];simp
 |d::ds,x,hd,hx=>by
  have ih:=dF ds x (λe he=>hd e<|JX _ he) hx;have h1:=hd d FW;have h2:=iI d;have hv:ET (d::ds++ [x])=d.toNat-128+128*ET (ds++ [x]):=by grind [ET]
  rw[hv];by_cases h0:ET (ds++ [x])=0
  ·have a:=bB h0 hx;rw[h0,MN<|by omega];simp_all
  rw[UD<|by omega]
  grind [UInt8.ofNat_toNat,ET]
theorem kT:∀(n:Nat),(BL n).length<=n+1
 |n=>by
  by_cases h:n<=127
  ·rw[MN h];simp
  have:=kT<|n/128
  grind [UD]
termination_by n=>n
decreasing_by omega
theorem dG {body:Int×List Int->Option ((Int×List Int)⊕(Int×List Int))} (hb:∀n a,body (n,a)=bif decide (n>127)then((ap 1 a [IntKind.u8.wrap (ad (Int.tmod n 128) 128)]).bind λc=>some (.inl (qu n 128,c)))else some (.inr (n,a))):
  ∀(n:Nat) (a:List Int),a.length+n<=1099511627776->∃(m:Nat) (o:List Int),Ai body ((n:Int),a)=some ((m:Int),o)/\m<=127/\o.length<=a.length+n/\(o++ [(m:Int)]).map (λn=>UInt8.ofNat n.toNat)=a.map (λn=>UInt8.ofNat n.toNat)++BL n
 |n,a,h=>by
  rw[Au,hb];by_cases hn:n<=127
  ·rw[Ah (by omega),Ad]
   grind [MN]
  rw[Ac (by omega),Al,AN (by grind),Aa];have e1:Int.tmod (n:Int) 128=((n %128:Nat):Int):=rfl;have e2:qu (n:Int) 128=((n/128:Nat):Int):=by grind [MV,qu]
  have e3:IntKind.u8.wrap (ad (Int.tmod (n:Int) 128) 128)=((n %128+128:Nat):Int):=by grind [BW,IntKind.wrap_u8]
  obtain⟨m,o,h1,h2,h3,h4⟩:=dG hb (n/128) (a++ [((n %128+128:Nat):Int)]) (by grind);rw[e2,e3];refine⟨m,o,h1,h2,by grind,?_⟩
  grind [UD]
termination_by n=>n
decreasing_by omega
theorem AC7 {s:Int} (h0:0<=s) (h1:s<4294967296):IntKind.u32.wrap (Int.tdiv s 2)=Int.fdiv s (2^(min (1:Int).toNat IntKind.u32.bits)):=by grind [IntKind.wrap_u32,IntKind.bits]
theorem an1 {s:Int} (h0:0<=s) (h1:s<4294967296):an s 1=Int.tmod s 2:=by grind [BN,IntKind.wrap_u32,an]
theorem ABK (a b:Int):0<=xr a b/\xr a b<4294967296:=by grind [IntKind.wrap_u32,xr]
theorem cS {body:S->Option (S⊕β)} (a:σ->Int->S) (mkS':σ->Int->S') (n:Nat) (c:Nat->σ->Prop) (Q:β->Prop) (h1:∀s i,i<n->c i s->(∃s',body (a s (i:Nat))=some (.inl (a s' ((i+1:Nat):Int)))/\body' (mkS' s (i:Nat))=some (.inl (mkS' s' ((i+1:Nat):Int)))/\c (i+1) s')\/∃b,body (a s (i:Nat))=some (.inr b)/\body' (mkS' s (i:Nat))=some (.inr b)/\Q b) (h2:∀s,c n s->∃b,body (a s (n:Nat))=some (.inr b)/\body' (mkS' s (n:Nat))=some (.inr b)/\Q b):∀(k i:Nat) (s:σ),i+k=n->c i s->∃b,Ai body (a s (i:Nat))=some b/\Ai body' (mkS' s (i:Nat))=some b/\Q b
 |0,i,s,hi,hs=>by grind [Au]
 |k+1,i,s,hi,hs=>by
  rcases h1 s i (by omega) hs with⟨s',h3,h4,h5⟩|⟨b,h3,h4,h5⟩
  ·obtain⟨b,h6,h7,h8⟩:=cS a mkS' n c Q h1 h2 k (i+1) s' (by omega) h5
   grind [Au]
  grind [Au]
theorem ME {s:σ} {body:S->Option (S⊕β)} (a:σ->Int->S) (mkS':σ->Int->S') (n:Nat) (c:Nat->σ->Prop) (Q:β->Prop) (h1:∀s i,i<n->c i s->(∃s',body (a s (i:Nat))=some (.inl (a s' ((i+1:Nat):Int)))/\body' (mkS' s (i:Nat))=some (.inl (mkS' s' ((i+1:Nat):Int)))/\c (i+1) s')\/∃b,body (a s (i:Nat))=some (.inr b)/\body' (mkS' s (i:Nat))=some (.inr b)/\Q b) (h2:∀s,c n s->∃b,body (a s (n:Nat))=some (.inr b)/\body' (mkS' s (n:Nat))=some (.inr b)/\Q b) (hs:c 0 s):∃b,Ai body (a s 0)=some b/\Ai body' (mkS' s 0)=some b/\Q b:=
 cS a mkS' n c Q h1 h2 n 0 s (by omega) hs
theorem Vn {body:S->Option (S⊕β)} (φ:S->S') (h:∀s,body' (φ s)=(body s).map (Sum.map φ id)):∀(n:Nat) (s:S),ON body' n (φ s)=ON body n s
 |0,_=>rfl
 |n+1,s=>by
  simp only[ON,h]
  cases body s with
  |none=>rfl
  |some o=>
   cases o with
   |inl s'=>exact Vn φ h n s'
   |inr b=>rfl
theorem nW {body:S->Option (S⊕β)} (φ:S->S') (h:∀s,body' (φ s)=(body s).map (Sum.map φ id)) (s:S):Ai body' (φ s)=Ai body s:=by
 have b:∀a,Ai body' (φ s)=some a↔Ai body s=some a:=λa=>by
  rw[GB,GB];exact⟨λ⟨n,hn⟩=>⟨n,by rw[<-Vn φ h];exact hn⟩,λ⟨n,hn⟩=>⟨n,by rw[Vn φ h];exact hn⟩⟩
 cases hx:Ai body s with
 |some a=>grind
 |none=>
  cases hy:Ai body' (φ s)with
  |none=>rfl
  |some a=>grind
theorem SL {body:S->Option (S⊕β)} (φ:S->S') (I:S->Prop) (h:∀s,I s->body' (φ s)=(body s).map (Sum.map φ id)) (hI:∀s s',I s->body s=some (.inl s')->I s'):∀(n:Nat) (s:S),I s->ON body' n (φ s)=ON body n s
 |0,_,_=>rfl
 |n+1,s,hs=>by
  simp only[ON,h s hs]
  cases hb:body s with
  |none=>rfl
  |some o=>
   cases o with
   |inl s'=>exact SL φ I h hI n s' (hI s s' hs hb)
   |inr b=>rfl
theorem jW {body:S->Option (S⊕β)} (φ:S->S') (I:S->Prop) (h:∀s,I s->body' (φ s)=(body s).map (Sum.map φ id)) (hI:∀s s',I s->body s=some (.inl s')->I s') (s:S) (hs:I s):Ai body' (φ s)=Ai body s:=by
 have b:∀a,Ai body' (φ s)=some a↔Ai body s=some a:=λa=>by
  rw[GB,GB];exact⟨λ⟨n,hn⟩=>⟨n,by rw[<-SL φ I h hI n s hs];exact hn⟩,λ⟨n,hn⟩=>⟨n,by rw[SL φ I h hI n s hs];exact hn⟩⟩
 cases hx:Ai body s with
 |some a=>grind
 |none=>
  cases hy:Ai body' (φ s)with
  |none=>rfl
  |some a=>grind
theorem tM {s:S} {b:β} {body:S->Option (S⊕β)} (I:S->Prop) (Q:β->Prop) (hI:∀s s',I s->body s=some (.inl s')->I s') (hQ:∀s b,I s->body s=some (.inr b)->Q b) (hs:I s) (h:Ai body s=some b):Q b:=by
 obtain⟨n,hn⟩:=GB.1 h;clear h
 induction n generalizing s with
 |zero=>cases hn
 |succ n ih=>grind [ON]
theorem Yz {body':S'->Option (S'⊕β')} {body:S->Option (S⊕β)} (a:σ->Int->S) (mkS':σ->Int->S') (n:Nat) (c:Nat->σ->Prop) (Q:β->β'->Prop) (h1:∀s i,i<n->c i s->(∃s',body (a s (i:Nat))=some (.inl (a s' ((i+1:Nat):Int)))/\body' (mkS' s (i:Nat))=some (.inl (mkS' s' ((i+1:Nat):Int)))/\c (i+1) s')\/∃b b',body (a s (i:Nat))=some (.inr b)/\body' (mkS' s (i:Nat))=some (.inr b')/\Q b b') (h2:∀s,c n s->∃b b',body (a s (n:Nat))=some (.inr b)/\body' (mkS' s (n:Nat))=some (.inr b')/\Q b b'):∀(k i:Nat) (s:σ),i+k=n->c i s->∃b b',Ai body (a s (i:Nat))=some b/\Ai body' (mkS' s (i:Nat))=some b'/\Q b b'
 |0,i,s,hi,hs=>by grind [Au]
 |k+1,i,s,hi,hs=>by
  rcases h1 s i (by omega) hs with⟨s',h3,h4,h5⟩|⟨b,b',h3,h4,h5⟩
  ·obtain⟨b,b',h6,h7,h8⟩:=Yz a mkS' n c Q h1 h2 k (i+1) s' (by omega) h5
   grind [Au]
  grind [Au]
theorem cR {body':S'->Option (S'⊕β')} {s:σ} {body:S->Option (S⊕β)} (a:σ->Int->S) (mkS':σ->Int->S') (n:Nat) (c:Nat->σ->Prop) (Q:β->β'->Prop) (h1:∀s i,i<n->c i s->(∃s',body (a s (i:Nat))=some (.inl (a s' ((i+1:Nat):Int)))/\body' (mkS' s (i:Nat))=some (.inl (mkS' s' ((i+1:Nat):Int)))/\c (i+1) s')\/∃b b',body (a s (i:Nat))=some (.inr b)/\body' (mkS' s (i:Nat))=some (.inr b')/\Q b b') (h2:∀s,c n s->∃b b',body (a s (n:Nat))=some (.inr b)/\body' (mkS' s (n:Nat))=some (.inr b')/\Q b b') (hs:c 0 s):∃b b',Ai body (a s 0)=some b/\Ai body' (mkS' s 0)=some b'/\Q b b':=
 Yz a mkS' n c Q h1 h2 n 0 s (by omega) hs
theorem RA {body body':S->Option (S⊕β)} (m:S->Nat) (a:S->Prop) (Q:β->Prop) (h:∀s,a s->(∃s',body s=some (.inl s')/\body' s=some (.inl s')/\a s'/\m s'<m s)\/∃b,body s=some (.inr b)/\body' s=some (.inr b)/\Q b):∀(n:Nat) (s:S),m s<=n->a s->∃b,Ai body s=some b/\Ai body' s=some b/\Q b
 |n,s,hn,hs=>by
  rcases h s hs with⟨s',h1,h2,h3,h4⟩|⟨b,h1,h2,h3⟩
  ·cases n with
   |zero=>omega
   |succ n=>
    obtain⟨b,h5,h6,h7⟩:=RA m a Q h n s' (by omega) h3
    grind [Au]
  grind [Au]
theorem Qr (z:α->Nat):∀(l:List α) (i:Nat) (h:i<l.length),((l.take (i+1)).map z).sum=((l.take i).map z).sum+z l[i]
 |[],i,h=>by simp at h
 |x::l,0,h=>by simp
 |x::l,i+1,h=>by
  simp only[List.take_succ_cons,C8,GT,List.getElem_cons_succ];rw[Qr z l i (by simpa using h)];omega
theorem Nd (z:α->Nat) (l:List α) (i:Nat):((l.take i).map z).sum<=(l.map z).sum:=by grind [Bs]
theorem gC (a:List α) (x:α) (post:List α):gi (a++x::post) (a.length:Nat)=some x:=by grind [Ap]
theorem eD (a:List α) (x y:α) (post:List α):si (a++x::post) (a.length:Nat) y=a++y::post:=by grind [Dk]
noncomputable section
def Dj (lt:γ->γ->Bool) (xA:Int) (xB:Int) (xN:Int) (a:Int) (b:List γ):Option ((Int×List γ)⊕(List γ)):=cond (decide<|a<xN) ((mU b (ad xA a)<|ad xB a).bind λv1=>some<|.inl (ad a 1,v1))<|some<|.inr b
def Cr (lt:γ->γ->Bool) (xL:List γ) (xA:Int) (xB:Int) (xN:Int):Option (List γ):=(Ai (λs:Int×List γ=>Dj lt xA xB xN s.1 s.2) (0,xL)).bind λv2=>some v2
def DR (lt:γ->γ->Bool) (xM:Int) (a:Int) (b:Int) (c:List γ):Option ((Int×Int×List γ)⊕(Int×List γ)):=cond (a !=b) (cond (decide<|a>b) ((Cr lt c (sb xM a) xM b).bind λv1=>some<|.inl (sb a b,b,v1))<|(Cr lt c (sb xM a) (sb (ad xM b) a) a).bind λv2=>some<|.inl (a,sb b a,v2))<|some<|.inr (a,c)
def El (lt:γ->γ->Bool) (xL:List γ) (xA:Int) (xM:Int) (xB:Int):Option (List γ):=(Ai (λs:Int×Int×List γ=>DR lt xM s.1 s.2.1 s.2.2) (sb xM xA,sb xB xM,xL)).bind λv3=>(Cr lt v3.2 (sb xM v3.1) xM v3.1).bind λv4=>some v4
def AO (lt:γ->γ->Bool) (xA:Int) (a:Int) (b:List γ):Option ((Int×List γ)⊕(List γ)):=(cond (decide<|a>xA) ((uP b a<|sb a 1).bind λv1=>some<|lt v1.1 v1.2) (some false):Option Bool).bind λj1=>cond j1 ((mU b a<|sb a 1).bind λv2=>some<|.inl (sb a 1,v2))<|some<|.inr b
def AL (lt:γ->γ->Bool) (xA:Int) (xB:Int) (a:Int) (b:List γ):Option ((Int×List γ)⊕(List γ)):=cond (decide<|a<xB) ((Ai (λs:Int×List γ=>AO lt xA s.1 s.2) (a,b)).bind λv3=>some<|.inl (ad a 1,v3))<|some<|.inr b
def Bt (lt:γ->γ->Bool) (xL:List γ) (xA:Int) (xB:Int):Option (List γ):=(Ai (λs:Int×List γ=>AL lt xA xB s.1 s.2) (ad xA 1,xL)).bind λv4=>some v4
def Dv (lt:γ->γ->Bool) (xL:List γ) (xA:Int) (a:Int) (b:Int):Option ((Int×Int)⊕Int):=cond (decide<|a<b) ((uP xL (IntKind.i64.wrap<|Int.fdiv (IntKind.u64.wrap<|ad a b)<|2^(min (1:Int).toNat IntKind.u64.bits)) xA).bind λv1=>cond (lt v1.1 v1.2) (some<|.inl (ad (IntKind.i64.wrap<|Int.fdiv (IntKind.u64.wrap<|ad a b)<|2^(min (1:Int).toNat IntKind.u64.bits)) 1,b))<|some<|.inl (a,IntKind.i64.wrap<|Int.fdiv (IntKind.u64.wrap<|ad a b)<|2^(min (1:Int).toNat IntKind.u64.bits)))<|some<|.inr a
def CK (lt:γ->γ->Bool) (v2:Int) (a:Int) (b:List γ):Option ((Int×List γ)⊕(List γ)):=cond (decide<|a<(sb v2 1)) ((mU b a<|ad a 1).bind λv3=>some<|.inl (ad a 1,v3))<|some<|.inr b
def Du (lt:γ->γ->Bool) (xL:List γ) (xM:Int) (a:Int) (b:Int):Option ((Int×Int)⊕Int):=cond (decide<|a<b) ((uP xL xM<|IntKind.i64.wrap<|Int.fdiv (IntKind.u64.wrap<|ad a b)<|2^(min (1:Int).toNat IntKind.u64.bits)).bind λv5=>cond (!(lt v5.1 v5.2)) (some<|.inl (ad (IntKind.i64.wrap<|Int.fdiv (IntKind.u64.wrap<|ad a b)<|2^(min (1:Int).toNat IntKind.u64.bits)) 1,b))<|some<|.inl (a,IntKind.i64.wrap<|Int.fdiv (IntKind.u64.wrap<|ad a b)<|2^(min (1:Int).toNat IntKind.u64.bits)))<|some<|.inr a
def CJ (lt:γ->γ->Bool) (v6:Int) (a:Int) (b:List γ):Option ((Int×List γ)⊕(List γ)):=cond (decide<|a>v6) ((mU b a<|sb a 1).bind λv7=>some<|.inl (sb a 1,v7))<|some<|.inr b
def Dt (lt:γ->γ->Bool) (xL:List γ) (xA:Int) (xM:Int) (xB:Int) (a:Int) (b:Int):Option ((Int×Int)⊕Int):=cond (decide<|a<b) ((uP xL (sb (sb (ad (IntKind.i64.wrap<|Int.fdiv (IntKind.u64.wrap<|ad xA xB)<|2^(min (1:Int).toNat IntKind.u64.bits)) xM) 1)<|IntKind.i64.wrap<|Int.fdiv (IntKind.u64.wrap<|ad a b)<|2^(min (1:Int).toNat IntKind.u64.bits))<|IntKind.i64.wrap<|Int.fdiv (IntKind.u64.wrap<|ad a b)<|2^(min (1:Int).toNat IntKind.u64.bits)).bind λv9=>cond (!(lt v9.1 v9.2)) (some<|.inl (ad (IntKind.i64.wrap<|Int.fdiv (IntKind.u64.wrap<|ad a b)<|2^(min (1:Int).toNat IntKind.u64.bits)) 1,b))<|some<|.inl (a,IntKind.i64.wrap<|Int.fdiv (IntKind.u64.wrap<|ad a b)<|2^(min (1:Int).toNat IntKind.u64.bits)))<|some<|.inr a
def Cb (lt:γ->γ->Bool):Nat->(List γ)->Int->Int->Int->Option (List γ)
 |0,_,_,_,_=>none
 |n+1,xL,xA,xM,xB=>cond ((sb xM xA)==1) ((Ai (λs:Int×Int=>Dv lt xL xA s.1 s.2) (xM,xB)).bind λv2=>(Ai (λs:Int×List γ=>CK lt v2 s.1 s.2) (xA,xL)).bind λv4=>some v4) (cond ((sb xB xM)==1) ((Ai (λs:Int×Int=>Du lt xL xM s.1 s.2) (xA,xM)).bind λv6=>(Ai (λs:Int×List γ=>CJ lt v6 s.1 s.2) (xM,xL)).bind λv8=>some v8) ((cond (decide (xM>(IntKind.i64.wrap (Int.fdiv (IntKind.u64.wrap (ad xA xB)) (2^(min (1:Int).toNat IntKind.u64.bits)))))) (some (sb (ad (IntKind.i64.wrap (Int.fdiv (IntKind.u64.wrap (ad xA xB)) (2^(min (1:Int).toNat IntKind.u64.bits)))) xM) xB,IntKind.i64.wrap (Int.fdiv (IntKind.u64.wrap (ad xA xB)) (2^(min (1:Int).toNat IntKind.u64.bits))))) (some (xA,xM)):Option (Int×Int)).bind λj1=>(Ai (λs:Int×Int=>Dt lt xL xA xM xB s.1 s.2) (j1.1,j1.2)).bind λv10=>(cond (decide (v10<xM)) (some (decide (xM<(sb (ad (IntKind.i64.wrap (Int.fdiv (IntKind.u64.wrap (ad xA xB)) (2^(min (1:Int).toNat IntKind.u64.bits)))) xM) v10)))) (some false):Option Bool).bind λj2=>(cond j2 ((El lt xL v10 xM (sb (ad (IntKind.i64.wrap (Int.fdiv (IntKind.u64.wrap (ad xA xB)) (2^(min (1:Int).toNat IntKind.u64.bits)))) xM) v10)).bind λv11=>some v11) (some xL):Option (List γ)).bind λj3=>(cond (decide (xA<v10)) (some (decide (v10<(IntKind.i64.wrap (Int.fdiv (IntKind.u64.wrap (ad xA xB)) (2^(min (1:Int).toNat IntKind.u64.bits))))))) (some false):Option Bool).bind λj4=>(cond j4 ((Cb lt n j3 xA v10 (IntKind.i64.wrap (Int.fdiv (IntKind.u64.wrap (ad xA xB)) (2^(min (1:Int).toNat IntKind.u64.bits))))).bind λv12=>some v12) (some j3):Option (List γ)).bind λj5=>cond (decide ((IntKind.i64.wrap (Int.fdiv (IntKind.u64.wrap (ad xA xB)) (2^(min (1:Int).toNat IntKind.u64.bits))))<(sb (ad (IntKind.i64.wrap (Int.fdiv (IntKind.u64.wrap (ad xA xB)) (2^(min (1:Int).toNat IntKind.u64.bits)))) xM) v10))) (cond (decide ((sb (ad (IntKind.i64.wrap (Int.fdiv (IntKind.u64.wrap (ad xA xB)) (2^(min (1:Int).toNat IntKind.u64.bits)))) xM) v10)<xB)) ((Cb lt n j5 (IntKind.i64.wrap (Int.fdiv (IntKind.u64.wrap (ad xA xB)) (2^(min (1:Int).toNat IntKind.u64.bits)))) (sb (ad (IntKind.i64.wrap (Int.fdiv (IntKind.u64.wrap (ad xA xB)) (2^(min (1:Int).toNat IntKind.u64.bits)))) xM) v10) xB).bind λv13=>some v13) (some j5)) (some j5)))
def Cs (lt:γ->γ->Bool) (xN:Int) (b:Int) (a:Int) (c:List γ):Option ((Int×Int×List γ)⊕(Int×List γ)):=cond (decide<|a<=xN) ((Bt lt c b a).bind λv1=>some<|.inl (a,ad a 20,v1))<|some<|.inr (b,c)
def CC (lt:γ->γ->Bool) (xN:Int) (a:Int) (c:Int) (b:Int) (d:List γ):Option ((Int×Int×List γ)⊕(Int×List γ)):=cond (decide<|b<=xN) ((Cb lt (List.length d+1) d c (ad c a) b).bind λv4=>some<|.inl (b,ad b<|ml 2 a,v4))<|some<|.inr (c,d)
def CD (lt:γ->γ->Bool) (xN:Int) (a:Int) (b:List γ):Option ((Int×List γ)⊕(List γ)):=cond (decide<|a<xN) ((Ai (λs:Int×Int×List γ=>CC lt xN a s.1 s.2.1 s.2.2) (0,ml 2 a,b)).bind λv5=>cond (decide<|(ad v5.1 a)<xN) ((Cb lt (List.length v5.2+1) v5.2 v5.1 (ad v5.1 a) xN).bind λv6=>some<|.inl (ml a 2,v6))<|some<|.inl (ml a 2,v5.2))<|some<|.inr b
def C5 (lt:γ->γ->Bool) (xL:List γ) (xN:Int):Option (List γ):=(Ai (λs:Int×Int×List γ=>Cs lt xN s.1 s.2.1 s.2.2) (0,20,xL)).bind λv2=>(Bt lt v2.2 v2.1 xN).bind λv3=>(Ai (λs:Int×List γ=>CD lt xN s.1 s.2) (20,v3)).bind λv7=>some v7
def Yy (xX:Int):Option Int:=(cond (decide<|xX>=4294967296) (some (Int.fdiv xX<|2^(min (32:Int).toNat IntKind.u64.bits),32)) (some (xX,0)):Option (Int×Int)).bind λj1=>(cond (decide<|j1.1>=65536) (some (Int.fdiv j1.1<|2^(min (16:Int).toNat IntKind.u64.bits),ad j1.2 16)) (some (j1.1,j1.2)):Option (Int×Int)).bind λj2=>(cond (decide<|j2.1>=256) (some (Int.fdiv j2.1<|2^(min (8:Int).toNat IntKind.u64.bits),ad j2.2 8)) (some (j2.1,j2.2)):Option (Int×Int)).bind λj3=>(sx (bs [0,1,2,2,3,3,3,3,4,4,4,4,4,4,4,4,5,5,5,5,5,5,5,5,5,5,5,5,5,5,5,5,6,6,6,6,6,6,6,6,6,6,6,6,6,6,6,6,6,6,6,6,6,6,6,6,6,6,6,6,6,6,6,6,7,7,7,7,7,7,7,7,7,7,7,7,7,7,7,7,7,7,7,7,7,7,7,7,7,7,7,7,7,7,7,7,7,7,7,7,7,7,7,7,7,7,7,7,7,7,7,7,7,7,7,7,7,7,7,7,7,7,7,7,7,7,7,7,8,8,8,8,8,8,8,8,8,8,8,8,8,8,8,8,8,8,8,8,8,8,8,8,8,8,8,8,8,8,8,8,8,8,8,8,8,8,8,8,8,8,8,8,8,8,8,8,8,8,8,8,8,8,8,8,8,8,8,8,8,8,8,8,8,8,8,8,8,8,8,8,8,8,8,8,8,8,8,8,8,8,8,8,8,8,8,8,8,8,8,8,8,8,8,8,8,8,8,8,8,8,8,8,8,8,8,8,8,8,8,8,8,8,8,8,8,8,8,8,8,8,8,8,8,8,8,8])<|IntKind.u8.wrap j3.1).bind λx1=>some<|ad j3.2<|IntKind.i64.wrap x1
def Vu (xX:Int):Option Int:=(Yy xX).bind λv1=>some v1
def EX (lt:γ->γ->Bool) (xL:List γ) (xA:Int) (xB:Int):Option (Unit⊕Unit⊕(List γ)):=cond (decide<|(sb xB xA)<=12) ((Bt lt xL xA xB).bind λv1=>some<|.inr<|.inr v1) none
def DJ (lt:γ->γ->Bool) (xL:List γ) (xA:Int) (xB:Int) (a:Int):Option (List γ):=(Ai (λ_:Unit=>EX lt xL xA xB) ()).bind<|Sum.elim (λv2=>some xL) some
def Ki (lt:γ->γ->Bool) (l:List γ):Option (List γ):=(Vu<|IntKind.u64.wrap<|ln l).bind λv=>DJ lt l 0 (ln l) v
end
def srt (a:γ->Int) (l:List γ):Prop:=l.Pairwise λx y=>a x<=a y
section
variable (key:γ->Int)
def Br (l r:List γ):Prop:=∀k,r.filter (λx=>key x==k)=l.filter (λx=>key x==k)
end
theorem Br.refl (a:γ->Int) (l:List γ):Br a l l:=λ_=>rfl
theorem Br.trans (d:γ->Int) {a b c:List γ} (h:Br d a b) (k:Br d b c):Br d a c:=λx=>(k x).trans<|h x
theorem FG (e:γ->Int) {a b c d:List γ} (h:Br e a b) (k:Br e c d):Br e (a++c) (b++d):=λx=>by rw[BC,BC,h,k]
section
variable (key:γ->Int)
theorem Br.mem {a b:List γ} (h:Br key a b) {x:γ}:x∈b↔x∈a:=by
 have:=h<|key x;have e:x∈b.filter (λy=>key y==key x)↔x∈a.filter (λy=>key y==key x):=by rw[this]
 simpa using e
end
section
variable (key:γ->Int)
theorem Br.nil {b:List γ} (h:Br key [] b):b=[]:=by
 cases b with
 |nil=>rfl
 |cons x b=>exact absurd ((h.mem (x:=x)).1 FW)<|by simp
end
theorem Br.swap (c:γ->Int) {a b:List γ} (h:∀x∈a,∀y∈b,c y<c x):Br c (a++b) (b++a):=by
 intro k
 grind [BE]
theorem ST (p:γ->Bool):∀l:List γ,l.length=(l.filter p).length+(l.filter λx=>!p x).length
 |[]=>rfl
 |x::l=>by
  have:=ST p l
  grind
section
variable (key:γ->Int)
theorem Br.len {a b:List γ}:Br key a b->a.length=b.length:=by
 intro h;have:∀(n:Nat) (a b:List γ),a.length<=n->Br key a b->a.length=b.length:=by
  intro n
  induction n with
  |zero=>grind [Br.nil]
  |succ n ih=>
   intro a b ha h
   cases a with
   |nil=>rw[h.nil]
   |cons x a=>
    have hp:(x::a).length=((x::a).filter λy=>key y==key x).length+((x::a).filter λy=>!(key y==key x)).length:=by
     exact ST _ _
    have c:b.length=(b.filter λy=>key y==key x).length+(b.filter λy=>!(key y==key x)).length:=by
     exact ST _ _
    have h1:Br key ((x::a).filter λy=>!(key y==key x)) (b.filter λy=>!(key y==key x)):=by
     intro k;rw[Dx,Dx];by_cases hk:k=key x
     ·subst hk
      have z:∀l:List γ,l.filter (λy=>(key y==key x)&&!(key y==key x))=[]:=λl=>by simp
      rw[z,z]
     have z:∀l:List γ,l.filter (λy=>(key y==k)&&!(key y==key x))=l.filter (λy=>key y==k):=λl=>by grind
     rw[z,z];exact h k
    have h2:=ih _ _ (by grind) h1;rw[hp,c,h2,h<|key x]
 exact this a.length a b (Ax _) h
end
section
variable (key:γ->Int)
theorem Mu:∀{a b:List γ},srt key a->srt key b->Br key a b->a=b
 |[],b,_,_,h=>(h.nil key).symm
 |x::a,[],_,_,h=>by
  have:=h.len key;simp at this
 |x::a,y::b,ha,hb,h=>by
  have c:key x=key y:=by
   have h1:x∈y::b:=(h.mem key).2 FW;have h2:y∈x::a:=(h.mem key).1 FW;have k1:key y<=key x:=by
    rcases DE.1 h1 with rfl|h1
    ·exact GO _
    exact(BO.1 hb).1 x h1
   have k2:key x<=key y:=by
    rcases DE.1 h2 with rfl|h2
    ·exact GO _
    exact(BO.1 ha).1 y h2
   omega
  have e:=h<|key x;rw[HP (by simp[c]),HP<|by simp]at e
  injection e with e1 e2
  subst e1;have h':Br key a b:=by
   intro k;have:=h k
   grind
  rw[Mu (BO.1 ha).2 (BO.1 hb).2 h']
end
theorem YN (P S:List γ) (x:γ):gi (P++x::S) (P.length:Nat)=some x:=by grind [Ap]
theorem ACi (P S:List γ) (x y:γ):si (P++x::S) (P.length:Nat) y=P++y::S:=by
 rw[Dk];simp
theorem pV (P M S:List γ) (x y:γ):mU (P++x::(M++y::S)) (P.length:Nat) ((P.length+1+M.length:Nat):Int)=some (P++y::(M++x::S)):=by
 unfold mU
 grind [YN,ACi]
theorem pW (P S:List γ) (x y:γ):mU (P++x::y::S) ((P.length+1:Nat):Int) (P.length:Nat)=some (P++y::x::S):=by simp_all [mU,gi,si];grind
theorem u0 (P S:List γ) (x y:γ):mU (P++x::y::S) (P.length:Nat) ((P.length+1:Nat):Int)=some (P++y::x::S):=by
 have:=pV P [] S x y;simpa using this
theorem O7:∀(X Y P M S:List γ),X.length=Y.length->P.length+X.length+M.length+Y.length+S.length<=1152921504606846976->
  Cr lt (P++X++M++Y++S) (P.length:Nat) ((P.length+X.length+M.length:Nat):Int) (X.length:Nat)=some (P++Y++M++X++S):=by
 have d:∀(n:Nat) (X Y P M S:List γ) (a b c i:Nat),X.length=n->Y.length=n->a+i=P.length->b+i=P.length+n+M.length->c=i+n->P.length+n+M.length+n+S.length<=1152921504606846976->
   Ai (λs:Int×List γ=>Dj lt (a:Int) (b:Int) (c:Int) s.1 s.2) ((i:Int),P++X++M++Y++S)=some (P++Y++M++X++S):=by
  intro n
  induction n with
  |zero=>grind [Au,Dj]
  |succ n ih=>
   intro X Y P M S a b c i hX hY h1 h2 h3 hN
   cases X with
   |nil=>simp at hX
   |cons x X=>
   cases Y with
   |nil=>simp at hY
   |cons y Y=>
   simp only[AD]at hX hY;have hs:mU (P++(x::X)++M++(y::Y)++S) (ad (a:Int) (i:Int)) (ad (b:Int) (i:Int))=some (P++(y::X)++M++(x::Y)++S):=by
    have e1:ad (a:Int) (i:Int)=(P.length:Nat):=by rw[BW (by omega)<|by omega];omega
    have e2:ad (b:Int) (i:Int)=((P.length+1+(X++M).length:Nat):Int):=by rw[BW (by omega)<|by omega];grind
    have:=pV P (X++M) (Y++S) x y;rw[e1,e2];simpa using this
   rw[Au];simp only[Dj];rw[Ac (by omega:(i:Int)<c),Al,hs,Aa,ad1<|by omega];have:=ih X Y (P++ [y]) (M++ [x]) S a b c (i+1) (by omega) (by omega) (by simp;omega) (by simp;omega) (by omega) (by simp;omega);simp only[Bx,BX,Av,Jg]at this⊢;exact this
 intro X Y P M S e hN;unfold Cr;have:=d X.length X Y P M S P.length (P.length+X.length+M.length) X.length 0 rfl e.symm (by omega) (by omega) (by omega)<|by omega
 grind
theorem sW (P A B S:List γ) (hA:A≠ []) (hB:B≠ []) (hN:P.length+A.length+B.length+S.length<=1152921504606846976):
  El lt (P++A++B++S) (P.length:Nat) ((P.length+A.length:Nat):Int) ((P.length+A.length+B.length:Nat):Int)=some (P++B++A++S):=by
 have g:∀(m:Nat) (Bd:Int×Int×List γ->Option ((Int×Int×List γ)⊕(Int×List γ))) (d:∀i j l,Bd (i,j,l)=DR lt (m:Int) i j l) (k:Nat) (P U V S:List γ),U.length+V.length<=k->U≠ []->V≠ []->P.length+U.length=m->P.length+U.length+V.length+S.length<=1152921504606846976->
   ((
    Ai Bd ((U.length:Int),(V.length:Int),P++U++V++S)).bind λv3=>
    (Cr lt v3.2 (sb (m:Int) v3.1) (m:Int) v3.1).bind λv4=>some v4)=some (P++V++U++S):=by
  intro m Bd d k
  induction k with
  |zero=>simp_all
  |succ k ih=>
   intro P U V S hk hU hV hm hN;have lU:=H9.2 hU;have lV:=H9.2 hV;rw[Au];simp only[d,DR];have c:sb (m:Int) (U.length:Int)=(P.length:Nat):=by grind [BD]
   by_cases f:U.length=V.length
   ·have e:((U.length:Int) !=(V.length:Int))=false:=by simp[f]
    rw[e,Ad];simp only[Aa];rw[c];have:=O7 (lt:=lt) U V P [] S f (by simp;omega);simp_all
   have e:((U.length:Int) !=(V.length:Int))=true:=by simp;omega
   rw[e,Al];by_cases n:U.length>V.length
   ·rw[Ac (by omega:(U.length:Int)>V.length),Al,c];have h:U=U.take V.length++U.drop V.length:=(Bs _ _).symm;have a:(U.take V.length).length=V.length:=by simp;omega
    have b:(U.drop V.length).length=U.length-V.length:=by simp
    have:=O7 (lt:=lt) (U.take V.length) V P (U.drop V.length) S a (by grind);rw[a,b,show P.length+V.length+(U.length-V.length)=m by omega]at this;have e3:P++U++V++S=P++U.take V.length++U.drop V.length++V++S:=by grind
    have e4:sb (U.length:Int) (V.length:Int)=((U.drop V.length).length:Int):=by rw[BD (by omega) (by omega),b];omega
    have:=ih (P++V) (U.drop V.length) (U.take V.length) S (by grind) (by grind) (by grind) (by grind)<|by grind
    grind
   rw[Ah (by omega:¬(U.length:Int)>V.length),Ad,c];have a:(V.take<|V.length-U.length).length=V.length-U.length:=by simp
   have b:(V.drop<|V.length-U.length).length=U.length:=by simp;omega
   have:=O7 (lt:=lt) U (V.drop<|V.length-U.length) P (V.take<|V.length-U.length) S b.symm (by grind);rw[a]at this;have e2:sb (ad (m:Int) (V.length:Int)) (U.length:Int)=((P.length+U.length+(V.length-U.length):Nat):Int):=by rw[BW (by omega) (by omega),BD (by omega)<|by omega];omega
   have e3:P++U++V++S=P++U++V.take (V.length-U.length)++V.drop (V.length-U.length)++S:=by simp
   rw[e2,e3,this,Aa];have e4:sb (V.length:Int) (U.length:Int)=((V.take<|V.length-U.length).length:Int):=by rw[BD (by omega) (by omega),a];omega
   have:=ih P (V.drop<|V.length-U.length) (V.take<|V.length-U.length) (U++S) (by grind) (by grind) (by grind) (by rw[b];omega)<|by grind
   grind [Bs]
 have h1:sb ((P.length+A.length:Nat):Int) (P.length:Nat)=(A.length:Int):=by grind [BD]
 have h2:sb ((P.length+A.length+B.length:Nat):Int) ((P.length+A.length:Nat):Int)=(B.length:Int):=by grind [BD]
 unfold El;rw[h1,h2];exact g (P.length+A.length) (λs=>DR lt ((P.length+A.length:Nat):Int) s.1 s.2.1 s.2.2) (λ_ _ _=>rfl) _ P A B S (Ax _) hA hB rfl hN
def Ml (a:γ->Int) (x y:γ):Bool:=decide<|a x<a y
theorem tS (a:γ->Int) (P S:List γ) (y:γ) (B:Int×List γ->Option ((Int×List γ)⊕(List γ))) (hB:∀j l,B (j,l)=AO (Ml a) (P.length:Nat) j l):∀(n:Nat) (U V:List γ),U.length=n->srt a U->P.length+U.length+V.length+S.length<=1152921504606846976->
  ∃U1 U2,U=U1++U2/\Ai B (((P.length+U.length:Nat):Int),P++U++y::(V++S))=some (P++U1++y::(U2++V++S))/\(∀v∈U2,a y<a v)/\∀u∈U1,a u<=a y:=by
 intro n
 induction n with
 |zero=>
  intro U V hU _ hN;have:=AW hU;simp_all [Au,AO];grind
 |succ n ih=>
  intro U V hU hs hN
  rcases Ga U with rfl|⟨U0,z,rfl⟩
  ·simp at hU
  rw[Jh]at hU hs hN⊢;simp only[A3,Cl]at hU hN;have hl:P.length+(U0++ [z]).length=(P++U0).length+1:=by simp;omega
  have e0:P++(U0++ [z])++y::(V++S)=(P++U0)++z::y::(V++S):=by simp
  have ej:sb (((P++U0).length+1:Nat):Int) 1=((P++U0).length:Nat):=by grind [BD]
  have g1:gi ((P++U0)++z::y::(V++S)) (((P++U0).length+1:Nat):Int)=some y:=by grind [YN]
  have g2:uP ((P++U0)++z::y::(V++S)) (((P++U0).length+1:Nat):Int) ((P++U0).length:Nat)=some (y,z):=by grind [YN,uP]
  by_cases b:a y<a z
  ·obtain⟨U1,U2,h1,h2,h3,h4⟩:=ih U0 (z::V) (by omega) (AS.1 hs).1 (by grind);refine⟨U1,U2++ [z],by rw[h1];simp,?_,?_,h4⟩
   ·rw[Au,hB];simp only[AO];rw[hl,e0,Ac (by grind:(((P++U0).length+1:Nat):Int)>(P.length:Nat)),Al,ej,g2];simp only[Aa,Ml];rw[Ac b,Al,pW,Aa]
    grind
   grind
  refine⟨U0++ [z],[],by simp,?_,by simp,?_⟩
  ·grind [Au,AO,Ml]
  intro u hu
  rcases Ay.1 hu with hu|hu
  ·have:=(AS.1 hs).2.2 u hu z (by simp);omega
  grind
section
variable (key:γ->Int)
theorem HI (P X S:List γ) (hN:P.length+X.length+S.length<=1152921504606846976):
  ∃X',Bt (Ml key) (P++X++S) (P.length:Nat) ((P.length+X.length:Nat):Int)=some (P++X'++S)/\srt key X'/\Br key X X':=by
 have main:∀(b:Nat) (B:Int×List γ->Option ((Int×List γ)⊕(List γ))),(∀i l,B (i,l)=AL (Ml key) (P.length:Nat) (b:Int) i l)->∀(n:Nat) (U V:List γ),V.length=n->P.length+U.length+V.length=b->srt key U->b+S.length<=1152921504606846976->
   ∃X',Ai B (((P.length+U.length:Nat):Int),P++U++V++S)=some (P++X'++S)/\srt key X'/\Br key (U++V) X':=by
  intro b B hB n
  induction n with
  |zero=>grind [Br.refl,Au,AL]
  |succ n ih=>
   intro U V hV hb hs hN
   cases V with
   |nil=>simp at hV
   |cons y V=>
    simp only[AD]at hV hb;obtain⟨U1,U2,h1,h2,h3,h4⟩:=tS key P (V++S) y (λs=>AO (Ml key) (P.length:Nat) s.1 s.2) (λ_ _=>rfl) U.length U [] rfl hs (by grind);have hs':srt key (U1++y::U2):=by
     rw[h1]at hs;obtain⟨q1,q2,q3⟩:=AS.1 hs;refine AS.2 ⟨q1,BO.2 ⟨λv hv=>Int.le_of_lt<|h3 v hv,q2⟩,λu hu v hv=>?_⟩
     grind
    have hk:Br key (U++ [y]) (U1++y::U2):=by
     rw[h1,Bx];have:=Br.swap key (a:=U2) (b:=[y]) (λx hx z hz=>by simp at hz;grind)
     grind [FG,Br.refl]
    have c:(U1++y::U2).length=U.length+1:=by grind
    obtain⟨X',r1,r2,r3⟩:=ih (U1++y::U2) V (by omega) (by rw[c];omega) hs' hN;refine⟨X',?_,r2,?_⟩
    ·rw[Au,hB];simp only[AL];rw[Ac (by omega:((P.length+U.length:Nat):Int)<(b:Int)),Al];have e:P++U++y::V++S=P++U++y::([]++(V++S)):=by simp
     rw[e,h2,Aa,ad1<|by omega];simp only;rw[show P.length+U.length+1=P.length+(U1++y::U2).length by rw[c];omega]
     grind
    refine Br.trans key ?_ r3
    grind [FG,Br.refl]
 unfold Bt;rw[ad1<|by omega]
 cases X with
 |nil=>
  refine⟨[],?_,List.Pairwise.nil,Br.refl key _⟩
  grind [Au,AL]
 |cons x X=>
  obtain⟨X',h1,h2,h3⟩:=main (P.length+(x::X).length) (λs=>AL (Ml key) (P.length:Nat) ((P.length+(x::X).length:Nat):Int) s.1 s.2) (λ_ _=>rfl) X.length [x] X rfl (by simp;omega) (List.pairwise_singleton _ _)<|by omega
  grind
end
end Go.TI
