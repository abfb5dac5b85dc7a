/- What walks of Go code need. No condition. -/
import Derived.Test.YtmjoddpjpkneeaaGreatSAT3
import Derived.Laws.Strings
import Derived.Laws.BitsLemmas
set_option linter.unusedSimpArgs false
set_option linter.unusedVariables false
namespace Go.TI
open Go Go.RowKit
def DR (b:Bool) (cs:List TV):SV:=match b,cs with
 |false,[t]=> .one t
 |_,cs=> .agg cs
def YO (b:Bool) (vs:List Value):Value:=match b,vs with
 |false,[v]=>v
 |_,vs=> .agg vs.toArray
variable {γ α β S σ S':Type} {E:St} {i n N j by_:Nat} {w:World} {P:Program} {p q:Prop} {r:Root} {blk:Root->Nat} {f:FuncId} {ops:Array Oper} {oo:Oper} {rest:List Oper} {Q:Exit->St->Prop} {k k':IntKind} {m m':Int} {FA UA:List Nat} {FS US:Root->List Nat} {fn:Func} {g:Option Bool} {l:List α} {b:List γ} {body':S'->Option (S'⊕β)} {a:List γ} {s:σ} {z:α->Nat} {x:α} {c:List γ} {lt:γ->γ->Bool} {X:List γ}
theorem bZ {b:Bool} {v:Value} {F U:List Nat} {cs:List TV} (hb:b=true\/cs.length=1):QW w (DR b cs) v F U↔∃vs,v=YO b vs/\AO w cs vs F U:=by
 rcases hb with rfl|hb
 ·simp[DR,YO,QW]
 match cs,hb with
 |[t],_=>
  cases b with
  |true=>simp[DR,YO,QW]
  |false=>
   simp only[DR,QW,AO];constructor
   ·rintro⟨h1,h2⟩;exact⟨[v],rfl,v,[],F,[],U,[],rfl,by simp,by simp,h1,rfl,rfl,rfl⟩
   rintro⟨vs,rfl,v1,vs1,F1,F2,U1,U2,rfl,rfl,rfl,h1,rfl,rfl,rfl⟩;simp only[YO,A6];exact⟨h1,K5<|JU h1⟩
theorem lI {b:Bool} {vs us:List Value} (hl:vs.length=us.length) (hb:b=true\/vs.length=1) (h:YO b vs=YO b us):vs=us:=by
 rcases hb with rfl|hb
 ·simpa[YO]using h
 match vs,us,hb,hl with
 |[v],[u],_,_=>cases b<;>simpa[YO]using h
theorem M9:∀{xs ys:List TV} {vs:List Value} {F U:List Nat},AO w (xs++ys) vs F U->∃v1 v2 F1 F2 U1 U2,vs=v1++v2/\F=F1++F2/\U=U1++U2/\AO w xs v1 F1 U1/\AO w ys v2 F2 U2
 |[],ys,vs,F,U,h=>⟨[],vs,[],F,[],U,rfl,rfl,rfl,by simp[AO],h⟩
 |x::xs,ys,vs,F,U,h=>by
  obtain⟨v,a,F1,F2,U1,U2,rfl,rfl,rfl,h1,h2⟩:=h;obtain⟨v1,v2,G1,G2,V1,V2,rfl,rfl,rfl,k1,k2⟩:=M9 h2;exact⟨v::v1,v2,F1++G1,G2,U1++V1,V2,rfl,by simp,by simp,⟨v,v1,F1,G1,U1,V1,rfl,rfl,rfl,h1,k1⟩,k2⟩
def Of:TV->Bool
 | .int .. | .bool _| .str _| .fn .. | .adr .. | .hdr .. =>true
 | .sl true .. =>true
 |_=>false
theorem UF {a:Act}:∀{ts:List TV} {vs us:List Value} {F U G V:List Nat} (c:Nat),BA w a E blk (H4 E r [] c ts) us G V->AO w ts vs F U->(∀i v,vs[i]?=some v->pv w a blk r [] (c+i)=some v)->ts.all Of=true->us=vs
 |[],vs,us,F,U,G,V,c,h,k,hp,hf=>by
  obtain⟨rfl,_⟩:=h;obtain⟨rfl,_⟩:=k;rfl
 |t::ts,vs,us,F,U,G,V,c,h,k,hp,hf=>by
  simp only[H4]at h;obtain⟨u,us',G1,G2,V1,V2,rfl,rfl,rfl,h1,h2⟩:=h;obtain⟨v,b,F1,F2,U1,U2,rfl,rfl,rfl,k1,k2⟩:=k;simp only[EO,Af]at hf
  have e2:=UF (c+1) h2 k2 (λi v' hi=>by
   have:=hp (i+1) v'<|by simpa using hi
   rwa [show c+(i+1)=c+1+i by omega]at this) hf.2
  have e1:u=v:=by
   have h0:=hp 0 v rfl;rw[bI]at h0
   cases t with
   |sl o e sz cells=>
    cases o
    ·cases hf.1
    have h3:=h1.2.2.2 rfl;rw[h0]at h3
    injection h3.1 with h3
    exact h3.symm
   |int _ _=>exact h1.1.trans k1.1.symm
   |bool _=>exact h1.1.trans k1.1.symm
   |str _=>exact h1.1.trans k1.1.symm
   |fn _ _ _=>exact h1.1.trans k1.1.symm
   |adr _=>exact h1.1.trans k1.1.symm
   |hdr _ _ _=>exact h1.1.trans k1.1.symm
   |junk=>cases hf.1
   |view _ _ _ _=>cases hf.1
   |ptr _ _ _ _=>cases hf.1
  rw[e1,e2]
theorem P3 {q:List Nat}:∀{ts:List TV} {c:Nat},(H4 E r q c ts).length=ts.length
 |[],_=>rfl
 |t::ts,c=>by simp[H4,P3]
theorem GZ {a:Act}:∀{ts:List TV} {vs:List Value} {F U:List Nat},BA w a E blk ts vs F U->ts.all Of=true->AO w ts vs F U
 |[],_,_,_,h,_=>h
 |t::ts,vs,F,U,h,k=>by
  obtain⟨v,b,F1,F2,U1,U2,rfl,rfl,rfl,h1,h2⟩:=h;simp only[EO,Af]at k;refine⟨v,b,F1,F2,U1,U2,rfl,rfl,rfl,?_,GZ h2 k.2⟩;cases t<;>first|exact h1|cases k.1
def n7 (E:St) (r:Root) (cs:List TV):Prop:=(∃n,r= .slot n/\E.slots n= .agg cs)\/(r.mem=true/\E.boxes r=some cs)
section
variable {w0:Base} {a:Act}
theorem aV {o:Oper} {x:Tmp} {y:Operand} {d:Nat} {ag:Bool} {K:Act->World->Prop} {Q:Exit->Act->World->Prop} (h:B8 w0 FA UA N w a E blk FS US) (hF:FS .hand=[]) (hU:US .hand=[]) {tys:Array TypeId} (ho:o.op= .call {callee:= .value (.func f),args:= #[.tmp x,y],argTypes:=tys}) (hf:R2 P f) (hd:o.dst=some d) (hN:d<N) {l seg seg' post:List TV} (p:n7 E r (l++(seg++post))) (hx:E.slots x=DR ag (H4 E r [] l.length seg)) (b0:ag=true\/seg.length=1) (a3:(l++(seg++post)).all Of=true) (h8:seg'.length=seg.length) (f3:Ak seg=false) (hns':Ak seg'=false) (hfx':seg'.all Of=true) (hy:E.cell1 P 0 y=some (.int k m)) (hg:An P f [.sv<|DR ag seg,.sv<|.one<|.int k m] (.one<|.int k' m') [.sv<|DR ag seg',.gone]) (hK:∀w' v blk' FS' US',B8 w0 FA UA N w' (a.put o.dst v) (((E.setRoot r<|l++(seg'++post)).bump r).put o.dst<|.one<|.int k' m') blk' FS' US'->FS' .hand=[]->US' .hand=[]->K (a.put o.dst v) w'):o.wp P a w K Q:=by
 have a4:r≠ .hand:=by rcases p with⟨n,rfl,_⟩|⟨hm,_⟩<;>rintro⟨⟩;cases hm
 generalize a5:l++(seg++post)=cs at p a3;have hag':ag=true\/seg'.length=1:=by rw[h8];exact b0
 have hroot':E.root r=some cs:=by
  rcases p with⟨n,rfl,h1⟩|⟨hm,h1⟩
  ·simp[St.root,h1,SV.cells]
  cases r with
  |slot n=>cases hm
  |hand=>cases hm
  |box n=>exact h1
  |ext n=>exact h1
 obtain⟨vs,F,b4,h9,c6⟩:∃vs F,AO w cs vs F (US r)/\(FS r=F/\(∃n,r= .slot n/\a.eval (.tmp n)= .agg vs.toArray)\/FS r=blk r::F/\r.mem=true/\∃h0 T,w.heap[blk r]?=some (.cells h0 T (0,0))/\vs=h0.toList/\E.boxes r=some cs)/\∀j,pv w a blk r [] j=vs[j]? :=by
  rcases p with⟨n,rfl,h1⟩|⟨hm,h1⟩
  ·have hs:=h.slot n;rw[h1]at hs;obtain⟨vs,d0,hc⟩:=hs;refine⟨vs,FS<|.slot n,GZ hc a3,.inl ⟨rfl,n,rfl,d0⟩,λj=>?_⟩;simp[pv,AJ,d0,Value.cells]
  rcases h.box r hm with⟨h2,_⟩|⟨cs',h0,T,F0,h2,h3,h4,h5⟩
  ·rw[h1]at h2;cases h2
  rw[h1]at h2
  injection h2 with h2
  subst h2;refine⟨h0.toList,F0,h4,.inr ⟨h5,hm,h0,T,h3,rfl,h1⟩,λc=>?_⟩;have e1:((⟨blk r,0,none⟩:Addr).add c)=⟨blk r,c,none⟩:=nY
  cases r with
  |slot n=>cases hm
  |hand=>cases hm
  |box n=>simp only[pv,AJ,e1,World.cell?,h3];simp
  |ext n=>simp only[pv,AJ,e1,World.cell?,h3];simp
 rw[<-a5]at b4;obtain⟨va,vb,A,FB,C,UB,b5,d1,d2,d3,f4⟩:=M9 b4;obtain⟨v,vc,F1,B,U1,D,rfl,rfl,rfl,b1,f5⟩:=M9 f4;have f6:va.length=l.length:=BF d3;have d4:v.length=seg.length:=BF b1;have d5:ag=true\/v.length=1:=by rw[d4];exact b0
 have c0:seg.all Of=true:=by rw[<-a5]at a3;simp only[List.all_append,Af]at a3;exact a3.2.1
 have h7:F=A++F1++B:=by rw[d1];simp
 have hUe':US r=C++U1++D:=by rw[d2];simp
 have evx:a.eval (.tmp x)=YO ag v:=by
  have hs:=h.slot x;rw[hx]at hs;have hl:(H4 E r [] l.length seg).length=seg.length:=P3;have hs':∃us G V,a.eval (.tmp x)=YO ag us/\BA w a E blk (H4 E r [] l.length seg) us G V:=by
   rcases b0 with rfl|h1
   ·obtain⟨us,e1,e2⟩:=hs;exact⟨us,_,_,e1,e2⟩
   cases ag with
   |true=>
    obtain⟨us,e1,e2⟩:=hs;exact⟨us,_,_,e1,e2⟩
   |false=>
    match hsg:H4 E r [] l.length seg,(by rw[hl];exact h1:(H4 E r [] l.length seg).length=1)with
    |[t],_=>
     rw[hsg]at hs;exact⟨[a.eval<|.tmp x],FS<|.slot x,US<|.slot x,rfl,a.eval<|.tmp x,[],FS<|.slot x,[],US<|.slot x,[],rfl,by simp,by simp,hs.1,rfl,rfl,rfl⟩
  obtain⟨us,G,V,e1,e2⟩:=hs'
  rw[e1,UF l.length e2 b1 (λi u hi=>by
   rw[c6,b5,<-f6,Bj<|by omega];rw[show va.length+i-va.length=i by omega,CS (Ad.1 hi).1]
   exact hi) c0]
 have g1:U1=[]:=D5 b1 f3;subst g1;have evy:=BJ h hy
 have h6:∀b∈F,b∈FS r:=λb hb=>by rcases h9 with⟨e1,_⟩|⟨e1,_⟩<;>rw[e1]<;>simp[hb]
 have a1:∀b∈F1,b∈FS r:=λb hb=>h6 b (by rw[h7];simp[hb])
 have a6:F.Nodup:=by
  have:=h.nodup r
  rcases h9 with⟨e1,_⟩|⟨e1,_⟩
  ·rw[e1]at this;exact this
  rw[e1]at this;exact(B6.1 this).2
 rw[h7]at a6;obtain⟨n1,n2,n3⟩:=Ky a6
 have c1:=hg w [a.eval<|.tmp x,a.eval y] F1 [] ⟨_,_,F1,[],[],[],rfl,by simp,by simp,(bZ b0).2 ⟨v,evx,b1⟩,⟨_,_,[],[],[],[],rfl,rfl,rfl,⟨by rw[evy];simp[BU],by rw[evy];rfl⟩,rfl,rfl,rfl⟩⟩ n1 (by simp) (by
  intro b hb;rw[A6]at hb
  exact(h.inF r b<|a1 b hb).2)
 unfold Oper.wp;rw[Eg ho hf];have ea: #[Operand.tmp x,y].map a.eval=[a.eval<|.tmp x,a.eval y].toArray:=by simp
 rw[ea];simp only[Oper.upon];refine Calls.mono c1 ?_;rintro ee w' ⟨vr,Fr,Ur,G,V,rfl,g⟩;have b6:=g.fin;simp only[Gk]at b6;obtain⟨v1,vs1,G1,G2,V1,V2,e1,rfl,rfl,a2,v2,vs2,G3,G4,V3,V4,e3,rfl,rfl,⟨rfl,rfl⟩,e4,rfl,rfl⟩:=b6
 injection e1 with e1 e2
 subst e1;have b7:=g.res;simp only[QW,BU]at b7;obtain⟨⟨rfl,rfl,rfl⟩,_⟩:=b7;simp only[rD]at a2;obtain⟨us,g2,a2⟩:=(bZ hag').1 a2;have d6:us.length=seg'.length:=BF a2;have:us=v:=(lI (by rw[d4,d6,h8]) d5<|by rw[<-evx,g2]).symm;subst this;have g3:V1=[]:=D5 a2 hns';subst g3
 have a7:∀b∈G1,(b∈F1\/w.heap.size<=b)/\b<w'.heap.size:=λb hb=>g.inF b<|by simp[hb]
 have e0:G1.Nodup:=by have:=g.nodup;simpa using this
 have e5:∀b∈A++B,w'.heap[b]?=w.heap[b]? :=λb hb=>by
  refine g.keep b (h.inF r b<|h6 b (by rw[h7];simp at hb⊢;rcases hb with hb|hb<;>simp[hb])).2 λz=>?_
  rcases Au.1 hb with hb|hb
  ·exact(n2 b z).1 hb
  exact(n2 b z).2 hb
 have e6:∀b∈C++D,w'.heap[b]?=w.heap[b]? :=λb hb=>by
  have f1:b∈US r:=by rw[hUe'];simpa using hb
  exact g.keep b (h.inU r b f1).2 λz=>h.disU r r b (a1 b z) f1
 have a8:AO w' (l++(seg'++post)) vs (A++G1++B) (C++ []++D):=by
  rw[b5];have k1:=CA d3 (λb hb=>e5 b<|by simp[hb]) (λb hb=>e6 b<|by simp[hb]);have k2:=CA f5 (λb hb=>e5 b<|by simp[hb]) (λb hb=>e6 b<|by simp[hb]);have:=D6 k1<|D6 a2 k2;simpa using this
 let cs':=l++(seg'++post)
 let E1:St:=(E.setRoot r cs').bump r
 have i5:cs'.length=cs.length:=by rw[<-a5];simp[cs',h8]
 have ev:∀s,s≠r->E1.ver s=E.ver s:=by
  intro s hs;cases r<;>simp[E1,St.bump,St.setRoot,Bi,hs]
 have evr:E1.ver r=E.ver r+1:=by cases r<;>simp[E1,St.bump,St.setRoot,Bi]
 have eg:∀s,E1.gen s=E.gen s:=by intro s;cases r<;>rfl
 have er:∀s,s≠r->E1.root s=E.root s:=by
  intro s hs
  cases r with
  |slot n=>
   cases s with
   |slot m=>
    have:m≠n:=λe=>hs<|by rw[e]
    simp[E1,St.bump,St.setRoot,St.root,Bi,this]
   |box m=>rfl
   |ext m=>rfl
   |hand=>rfl
  |hand=>exact absurd rfl a4
  |box n=>cases s<;>simp[E1,St.bump,St.setRoot,St.root,Bi,hs]
  |ext n=>cases s<;>simp[E1,St.bump,St.setRoot,St.root,Bi,hs]
 have g4:∀s,Br w w' a a E E1 blk blk s:=by
  intro s;by_cases hs:s=r
  ·subst hs;refine⟨.inl (by rw[evr];omega),.inr ⟨eg s,λi ad c2 hp=>?_⟩⟩;refine⟨(by cases s<;>first|exact c2|(simp[pa]at c2)),?_⟩
   rcases p with⟨n,rfl,_⟩|⟨hm,h1⟩
   ·simp[pa]at c2
   have e1:E.place s [] i=cs[i]? :=by simp[St.place,hroot',Ba]
   have e2:E1.place s [] i=cs'[i]? :=by
    cases s with
    |slot n=>cases hm
    |hand=>cases hm
    |box n=>simp[E1,St.place,St.bump,St.setRoot,St.root,Bi,Ba]
    |ext n=>simp[E1,St.place,St.bump,St.setRoot,St.root,Bi,Ba]
   rw[e1]at hp;rw[e2];have hi:i<cs.length:=by
    rcases EE i cs.length with q2|q2
    ·exact q2
    rw[List.getElem?_eq_none q2]at hp;cases hp
   rw[Ab<|by omega];rfl
  by_cases hh:s= .hand
  ·subst hh;exact CZ (ev _ hs) (eg _)<|by simp[St.root,h.nohand]
  exact Ck h (ev s hs) (eg s) (er s hs) (λ_ _=>rfl) (λ_=>rfl)
   (λb hb=>g.keep b (h.inF s b hb).2 λz=>h.dis s r hs b hb<|a1 b z) (λb hb=>g.keep b (h.inU s b hb).2 λz=>h.disU r s b (a1 b z) hb)
 have hL:∀b∈A++G1++B,(b∈FS r\/w.heap.size<=b)/\b<w'.heap.size:=λb hb=>by
  rcases Au.1 hb with hb|hb
  ·rcases Au.1 hb with hb|hb
   ·have:=h6 b (by rw[h7];simp[hb]);exact⟨.inl this,Aw (h.inF r b this).2 g.size⟩
   obtain⟨q1,q2⟩:=a7 b hb;exact⟨q1.imp (a1 b) id,q2⟩
  have:=h6 b (by rw[h7];simp[hb]);exact⟨.inl this,Aw (h.inF r b this).2 g.size⟩
 have g5:∀b∈G1,b∉A/\b∉B:=λb hb=>by
  rcases(a7 b hb).1 with z|z
  ·exact n2 b z
  refine⟨λhc=>?_,λhc=>?_⟩
  ·have:=(h.inF r b<|h6 b (by rw[h7];simp[hc])).2;omega
  have:=(h.inF r b<|h6 b (by rw[h7];simp[hc])).2;omega
 have b8:(A++G1++B).Nodup:=Ll a6 e0 g5;have fin:∀L:List Nat,L.Nodup->(∀b∈L,(b∈FS r\/w.heap.size<=b)/\b<w'.heap.size)->CT w' a E1 blk r L (C++ []++D)->∃FS' US',B8 w0 FA UA N w' a E1 blk FS' US'/\FS' .hand=[]/\US' .hand=[]:=by
  intro L i0 i1 b2;have k7:=h.two (w':=w') (a':=a) (E':=E1) (blk':=blk) (r1:=r) (r2:= .hand) (L1:=L) (L2:=[]) (V1:=C++ []++D) (V2:=[]) a4
   (by simpa using i0)
   (λb hb=>by
    have:=i1 b<|by simpa using hb
    exact⟨this.1.imp id λq=> .inr q,this.2⟩)
   (λb hb=> .inl ⟨r,by rw[hUe'];simpa using hb⟩)
   g.size g.os g.tape g.output (λb hb q1 _=>g.keep b hb λz=>q1<|a1 b z) g4
   (λn hn _=>⟨by
    cases r with
    |slot m=>
     have:n≠m:=λe=>hn<|by rw[e]
     simp[E1,St.bump,St.setRoot,Bi,this]
    |hand=>exact absurd rfl a4
    |box m=>rfl
    |ext m=>rfl,rfl⟩)
   (λs hm hs _=>⟨by
    cases r with
    |slot m=>rfl
    |hand=>exact absurd rfl a4
    |box m=>simp[E1,St.bump,St.setRoot,Bi,hs]
    |ext m=>simp[E1,St.bump,St.setRoot,Bi,hs],rfl⟩)
   b2 trivial
   (by
    cases r with
    |slot m=>exact h.nohand
    |hand=>exact absurd rfl a4
    |box m=>simp[E1,St.bump,St.setRoot,Bi,h.nohand]
    |ext m=>simp[E1,St.bump,St.setRoot,Bi,h.nohand]) h.len h.nodef
   (hfz:=by
    intro n hn;have e:E1.fz=E.fz:=by show((E.setRoot r cs').bump r).fz=E.fz;rw[IR,DA]
    exact h.frz n<|e▸hn) (hamb:=by show((E.setRoot r cs').bump r).amb=E.amb;rw[Gj,Cr])
  exact⟨_,_,k7,Bf _ _ _,Bf _ _ _⟩
 have f2:∃FS' US',B8 w0 FA UA N w' a E1 blk FS' US'/\FS' .hand=[]/\US' .hand=[]:=by
  rcases p with⟨n,rfl,h1⟩|⟨hm,h1⟩
  ·refine fin (A++G1++B) b8 hL ?_;obtain⟨n',e1,e2⟩:∃n',Root.slot n= .slot n'/\a.eval (.tmp n')= .agg vs.toArray:=by
    rcases h9 with⟨_,e⟩|⟨_,hm,_⟩
    ·exact e
    cases hm
   injection e1 with e1
   subst e1;have i2:E1.slots n= .agg cs':=by
    show(Bi E.slots n<|(E.slots n).withCells cs') n=_;rw[Bf,h1];rfl
   simp only[CT,i2,E4];exact⟨vs,e2,Cz a8⟩
  rcases h9 with⟨_,n,rfl,_⟩|⟨h9,_,h0,T,hh,rfl,j0⟩
  ·cases hm
  have b3:blk r∈FS r:=by rw[h9];simp
  have a9:blk r∉F:=by
   have:=h.nodup r;rw[h9]at this;exact(B6.1 this).1
  have a0:blk r∉A/\blk r∉F1/\blk r∉B:=by
   rw[h7]at a9;simp only[Au,not_or]at a9;exact⟨a9.1.1,a9.1.2,a9.2⟩
  have i3:w'.heap[blk r]?=w.heap[blk r]? :=g.keep _ (h.inF r _ b3).2 a0.2.1
  have i4:blk r∉G1:=λhc=>by
   rcases(a7 _ hc).1 with q1|q1
   ·exact a0.2.1 q1
   have:=(h.inF r _ b3).2;omega
  refine fin (blk r::(A++G1++B)) (B6.2 ⟨by simp;exact⟨a0.1,i4,a0.2.2⟩,b8⟩) (λb hb=>?_) ?_
  ·rcases EN.1 hb with rfl|hb
   ·exact⟨.inl b3,Aw (h.inF r _ b3).2 g.size⟩
   exact hL b hb
  have b2:∃cs2 h0 T F0,E1.boxes r=some cs2/\w'.heap[blk r]?=some (.cells h0 T (0,0))/\AO w' cs2 h0.toList F0 (C++ []++D)/\(blk r::(A++G1++B))=blk r::F0:=by
   refine⟨cs',h0,T,A++G1++B,?_,by rw[i3];exact hh,a8,rfl⟩
   cases r with
   |slot n=>cases hm
   |hand=>cases hm
   |box n=>simp[E1,St.bump,St.setRoot,Bi]
   |ext n=>simp[E1,St.bump,St.setRoot,Bi]
  cases r with
  |slot n=>cases hm
  |hand=>cases hm
  |box n=>exact .inr b2
  |ext n=>exact .inr b2
 obtain⟨FS3,US3,t1,t2,t3⟩:=f2;obtain⟨FS4,US4,u1,u2,u3⟩:=t1.land (w':=w') (d:=d) (s:= .one (.int k' m')) (v:= .int k' m') (F:=[]) (U:=[]) hN (by simp[E4,Cj,BU,Value.cells]) BN (by simp) (by simp) (A8 _) rfl rfl rfl λ_ _ _=>rfl;rw[hd];rw[hd]at hK;exact hK w' _ _ _ _ u1 u2 u3
end
def Yf (b:Nat) (v0:Value) (T p:Nat):KC where
 B:=[b]
 I:=λw=>w.heap[b]?=some (.cells v0.cells T (0,0))
 st:=λw w' h k=>by rw[k b<|by simp];exact h
 pin:=some (p,some v0)
theorem rE {a:Act} {t:Nat} {w0:Base} {blk:Root->Nat} (h:B8 w0 FA UA N w a E blk FS US) {ad:Addr} (hs:E.slots t= .one (.adr ad)):a.eval (.tmp t)= .pointer (some ad):=by
 have:=h.slot t;rw[hs]at this;exact this.1.1
theorem Vo {b:Nat}:((⟨b,j,none⟩:Addr).add n)=⟨b,j+n,none⟩:=by
 unfold Addr.add;split
 ·rename_i h;subst h;rfl
 simp
theorem QN {b T p:Nat} {v0:Value} (d x j:Nat) (t:TypeId) (m seg post:List TV) (ag:Bool) (h:Ao P N ops rest (E.put (some d) (DR ag (H4 E (.slot 0) [] j seg))) Q) (hA:E.amb=Yf b v0 T p) (h1:ag=true\/seg.length=1) (hz:E.fz=some 0:=by rfl) (h0:E.slots 0= .agg (m++(seg++post)):=by rfl) (hx:E.slots x= .one (.adr ⟨b,j,none⟩):=by rfl) (hj:m.length=j:=by rfl) (o:seg.length=P.cellsOf t:=by rfl) (s:Tt P t=ag:=by rfl) (hu:(P.underlying t).isSome=true:=by rfl) (h5:(m++(seg++post)).all Of=true:=by rfl) (ho:oo.op= .load t (.tmp x):=by rfl) (hd:oo.dst=some d:=by rfl) (hN:Nat.blt d N=true:=by rfl) (hg:Az P ops E oo=some true:=by rfl):Ao P N ops (oo::rest) E Q:=by
 intro w0 FA UA w a blk FS US hr hF hU;simp only[wpList,AS hr hg,By];have hN':d<N:=by simpa[Bz]using hN
 have evx:=rE hr hx;have hs:=hr.slot 0;rw[h0]at hs;obtain⟨vs,y,hc⟩:=hs;have z:=GZ hc h5;obtain⟨va,vb,A,FB,C,UB,l,_,h6,h7,h8⟩:=M9 z;obtain⟨v,vc,F1,B,U1,D,rfl,rfl,rfl,f,a2⟩:=M9 h8;have h2:va.length=j:=by rw[BF h7,hj]
 have n:v.length=seg.length:=BF f;have e0:a.eval (.tmp 0)=v0:=by
  have k1:=hr.frz 0 hz;simp only[fZ,Nat.zero_mod,By,Nat.zero_div]at k1;rw[k1];exact(hr.pin (p,some v0) (by rw[hA];rfl)).2 v0 rfl
 have hI:w.heap[b]?=some (.cells vs.toArray T (0,0)):=by
  have:=hr.ambI;rw[hA]at this;have k:w.heap[b]?=some (.cells v0.cells T (0,0)):=this;rw[k,<-e0,y];rfl
 have g:∀i u,v[i]?=some u->w.cell? ⟨b,j+i,none⟩=some u:=λi u hi=>by
  simp only[World.cell?,hI];have:(va++(v++vc))[j+i]?=some u:=by
   rw[Bj (by omega),CS (by have:=(Ad.1 hi).1;omega)];rw[h2,Nat.add_sub_cancel_left];exact hi
  rw[l];simpa using this
 have h3:P.underlying t≠none:=by grind
 have h4:(execOp a.eval oo).run P w= .ok (.value<|YO ag v) w:=by
  cases hag':ag with
  |true=>
   have c:=run_loadCells_list (P:=P) w ⟨b,j,none⟩ v (λi u hu=>by rw[Vo];exact g i u hu);rw[n,o]at c;have h9:(sizeOf t).run P w= .ok (P.cellsOf t) w:=by grind [run_sizeOf,Program.underlying]
   simp[execOp,ho,evx,Instr.loadAt,Instr.sureAddr,loadVar,Ku h3,s,hag',h9,c,YO]
  |false=>
   have hl:v.length=1:=by rw[n];rcases h1 with h1|h1;rw[h1]at hag';cases hag';exact h1
   match hv:v,hl with
   |[u],_=>
    have:=g 0 u rfl;simp only[bI]at this;simp[execOp,ho,evx,Instr.loadAt,Instr.sureAddr,loadVar,Ku h3,s,hag',this,YO]
 obtain⟨U',k1,k2⟩:=Mx (E:=E) (r:= .slot 0) (q:=[]) j (Cz (a:=a) (E:=E) (blk:=blk) f) (λi t' v' hi hv' e sz cells he=>by
  have a3:=(Ad.1 hv').1;have a4:=(Ad.1 hi).1;constructor
  ·simp only[pv,AJ,y,Value.cells];rw[l];have:(va++(v++vc))[j+i]?=some v':=by
    rw[Bj (by omega),CS (by omega),h2,Nat.add_sub_cancel_left];exact hv'
   simpa using this
  simp only[St.place,St.root,h0,SV.cells,Ba,Aa];rw[Bj (by omega),CS (by omega),hj,Nat.add_sub_cancel_left]
  exact hi)
 have a0:E4 w a E blk (DR ag<|H4 E (.slot 0) [] j seg) (YO ag v) [] U':=by
  cases ag with
  |true=>exact⟨v,rfl,k1⟩
  |false=>
   have hl:seg.length=1:=by rcases h1 with h1|h1;cases h1;exact h1
   match hsg:seg,v,n,hl,k1,f with
   |[t],[u],_,_,k1,f=>
    simp only[H4]at k1⊢;obtain⟨u',us',G1,G2,V1,V2,q1,q2,q3,q4,_,q6,q7⟩:=k1
    injection q1 with q1 _
    rw[q6,A6]at q2;rw[q7,A6]at q3;obtain⟨u2,us2,H1,H2,W1,W2,p1,p2,p3,p4,_⟩:=f
    injection p1 with p1
    rw[<-q1,<-q2,<-q3]at q4;rw[<-p1]at p4;exact⟨q4,λ_=>K5<|JU p4⟩
 have a1:∀b∈U',∃r,b∈US r:=λb hb=>⟨.slot 0,by
  have:=k2 b hb;rw[h6]
  simp[this]⟩
 refine .inl<|C6.wp (E':=E.put (some d)<|DR ag<|H4 E (.slot 0) [] j seg) ⟨.value<|YO ag v,w,YO ag v,blk,Bi FS (.slot d) [],Bi US (.slot d) U',h4,.inl rfl,?_,?_,?_,λ_=>Cv.refl⟩ λw' v' blk' FS' US' q1 q2 q3 _=>h _ _ _ _ _ _ _ _ q1 q2 q3
 ·rw[hd];exact hr.put hN' a0<|FJ hr a1 _
 ·grind [AF]
 grind [AF]
theorem QO {b:Nat} {st:TypeId} {f:Nat} {fs:Array Field} {fd:Field} (d x:Nat) (h:Ao P N ops rest (E.put (some d) (.one (.adr ⟨b,n,none⟩))) Q) (hs:E.slots x= .one (.adr ⟨b,j,none⟩)) (l:P.underlying st=some (.struct fs):=by rfl) (hf:fs[f]?=some fd:=by rfl) (c:Nat.beq (P.cellsOf fd.type) 0=false:=by rfl) (hn:j+fd.offset=n:=by rfl) (ho:oo.op= .fieldAddr st (.tmp x) f:=by rfl) (hd:oo.dst=some d:=by rfl) (hN:Nat.blt d N=true:=by rfl) (hg:Az P ops E oo=some true:=by rfl):Ao P N ops (oo::rest) E Q:=by
 intro w0 FA UA w a blk FS US hr hF hU;simp only[wpList,AS hr hg,By];have hN':d<N:=by simpa[Bz]using hN
 have h1:=rE hr hs
 have g:P.cellsOf fd.type≠0:=λe=>by rw[e]at c;cases c
 obtain⟨i,hi,_⟩:=Dd g;have k:(execOp a.eval oo).run P w= .ok (.value<|.pointer<|some ⟨b,n,none⟩) w:=by
  simp[execOp,ho,h1,Instr.fieldAt,run_underlying l,hf,Instr.sureAddr,fieldPlace,run_sizeOf w hi,g,Vo,hn]
 refine .inl<|C6.wp (E':=E.put (some d)<|.one<|.adr ⟨b,n,none⟩) ⟨_,w,_,blk,Bi FS (.slot d) [],Bi US (.slot d) [],k,.inl rfl,?_,?_,?_,λ_=>Cv.refl⟩ λw' v' blk' FS' US' q1 q2 q3 _=>h _ _ _ _ _ _ _ _ q1 q2 q3
 ·rw[hd];exact hr.put hN' (by simp[E4,Cj,BU,Value.cells])<|FJ hr (by simp) _
 ·grind [AF]
 grind [AF]
def qQ (cs:List TV) (s:SV) (b:Nat) (v0:Value) (T p:Nat):St:=(Ca [.sv<|.agg cs,.sv s,.gone] (Yf b v0 T p)<|some 0).put (some 2)<|.one<|.adr ⟨b,0,none⟩
abbrev Ye (P:Program) (fn:Func) (cs':List TV) (a:SV):Exit->St->Prop:=λe E=>(e= .normal\/e= .ret)/\∃ss E',Cm P E fn.results.toList=some (ss,E')/\Ct ss=a/\E'.slots 0= .agg cs'/\E'.fz=some 0
theorem JZ {rid:Nat} {T:TypeId} {ops:Array Oper} {rest:Code} {cs cs':List TV} (hf:P.funcs[f]?=some fn) (hb:fn.body=some (.seq (.region rid ops false) rest)) (ho:(oA ops 0).op= .box T (.tmp 0)) (hd:(oA ops 0).dst=some 2) (hN:Nat.blt 2 fn.ntmps=true) (hg:∀E:St,NR P ops E 0=true) (b4:cs.isEmpty=false) (b5:cs.all Of=true) (h:∀b v0 p,RW P fn.ntmps ops 1 (qQ cs (.one (.int k m)) b v0 T p) (FK (λE'=>Wp P fn.ntmps rest E' (Ye P fn cs' (.one (.int k' m')))) (Ye P fn cs' (.one (.int k' m'))))) (hfx':cs'.all Of=true):An P f [.sv (.agg cs),.sv (.one (.int k m))] (.one (.int k' m')) [.sv (.agg cs'),.gone]:=by
 intro w vs FA UA ha t l g;have ha':=ha;obtain⟨v0,vs0,F1,F2,U1,U2,rfl,rfl,rfl,h8,h9⟩:=ha';obtain⟨v1,vs1,F3,F4,U3,U4,rfl,rfl,rfl,⟨⟨rfl,rfl,rfl⟩,_⟩,rfl,rfl,rfl⟩:=h9;obtain⟨rs,rfl,a2⟩:=h8;simp only[A6]at t l g ha⊢
 let b:=w.heap.size
 let w1:=w.alloc<|.cells rs.toArray T
 have hN':2<fn.ntmps:=by simpa[Bz]using hN
 let vs3:List Value:=[.agg rs.toArray,.int k m,.pointer<|some ⟨b,0,none⟩]
 let a0:Act:={tmps:= #[.agg rs.toArray,.int k m]++Array.replicate (fn.ntmps-2) undef,defers:=[]}
 let a1:Act:={tmps:=vs3.toArray++Array.replicate (fn.ntmps-3) undef,defers:=[]}
 have hk:∀c,c<w.heap.size->w1.heap[c]?=w.heap[c]? :=λc hc=>by
  show(w.heap.push _)[c]?=_;rw[Array.getElem?_push,Bm<|Nat.ne_of_lt hc]
 have j:w1.heap.size=w.heap.size+1:=by
  show(w.heap.push _).size=_;rw[Array.size_push]
 have a3:w1.heap[b]?=some (.cells rs.toArray T (0,0)):=by
  show(w.heap.push _)[w.heap.size]?=_;rw[Array.getElem?_push,Bw rfl]
 have a4:∀c∈F1,w1.heap[c]?=w.heap[c]? :=λc hc=>hk c<|g c<|by simp[hc]
 have a5:∀c∈U1,w1.heap[c]?=w.heap[c]? :=λc hc=>hk c<|g c<|by simp[hc]
 have a6:Gk w1 [.sv<|.agg cs,.sv<|.one<|.int k m,.gone] vs3 F1 U1:=by
  refine⟨_,_,F1,[],U1,[],rfl,by simp,by simp,⟨rs,rfl,CA a2 a4 a5⟩,_,_,[],[],[],[],rfl,rfl,rfl,⟨⟨rfl,rfl,rfl⟩,rfl⟩,_,_,[],[],[],[],rfl,rfl,rfl,⟨rfl,rfl⟩,rfl,rfl,rfl⟩
 obtain⟨blk,FS,US,hr,hF,hU⟩:=J3 (N:=fn.ntmps) a6 t l (λc hc=>by rw[j];exact Nat.lt_succ_of_lt<|g c hc) (A:=Yf b (.agg rs.toArray) T<|Rt vs3[0]?) (fz:=some 0) a3
  (λc hc=>by
   have:c=b:=by simpa[Yf]using hc
   subst this;refine⟨by rw[j];exact Nat.lt_succ_self _,λhc=>?_,λhc=>?_⟩
   ·exact absurd (g b<|by simp[hc])<|DJ _
   exact absurd (g b<|by simp[hc])<|DJ _)
  (hpin:=λc hc=>by
   have:(Rt vs3[0]?,some<|Value.agg rs.toArray)=c:=by simpa[Yf]using hc
   subst this
   exact⟨rfl,λv hv=>by injection hv with hv;subst hv;rfl⟩)
 have b3:True:=trivial;have z:a0.put (some 2) (.pointer<|some ⟨b,0,none⟩)=a1.put (some 2) (.pointer<|some ⟨b,0,none⟩):=by
  obtain⟨n,hn⟩:∃n,fn.ntmps=n+3:=⟨fn.ntmps-3,by omega⟩;simp only[a0,a1,Act.put,vs3,hn];congr 1;apply Array.ext';simp[Ix]
 have a7:=hr.put (d:=2) (s:= .one (.adr ⟨b,0,none⟩)) (v:= .pointer (some ⟨b,0,none⟩)) (F:=[]) (U:=[]) hN' (by simp[E4,Cj,BU,Value.cells]) T6.none;obtain⟨o1,o2⟩:=EC<|hg<|Ca [.sv<|.agg cs,.sv<|.one<|.int k m];obtain⟨blk0,FS0,US0,a8,_,_⟩:=J3 (N:=fn.ntmps) ha t l g (A:=KC.none) (fz:=none) trivial (λb hb=>by cases hb);have h0:(execOp a0.eval<|oA ops 0).run P w= .ok (.value<|.pointer<|some ⟨b,0,none⟩) w1:=by
  have e0:a0.eval (.tmp 0)= .agg rs.toArray:=by
   simp only[a0,Act.eval,CD];rw[Hu<|by simp];rfl
  simp[execOp,ho,Instr.box,e0,newVar,newRow,w1,b,Value.cells]
 let w0:Base:=⟨w1,λi=>Rt vs3[i]?,[b],({tmps:=vs3.toArray++Array.replicate (fn.ntmps-vs3.toArray.size) undef,defers:=[]}:Act).eval∘Operand.tmp⟩
 have r:(Code.region rid ops false).wp P (Uo w0 F1 U1 fn.ntmps<|FK (λE'=>Wp P fn.ntmps rest E'<|Ye P fn cs'<|.one<|.int k' m')<|Ye P fn cs'<|.one<|.int k' m') a0 w:=by
  refine wp_region_list ?_;have h5:=DI o1;rw[List.drop_zero]at h5;rw[h5];simp only[wpList];have u:Region.wanted (oA ops 0) (yielded ops a0.tmps)=true:=AS a8 o2;rw[Bw u];refine .inl ?_;unfold Oper.wp;rw[h0];show wpList P ops _ _ (a0.put (oA ops 0).dst _) w1;rw[hd,z];exact h b (.agg rs.toArray) _ w0 F1 U1 w1 _ blk _ _ a7 (by rw[AF<|by simp];exact hF) (by rw[AF<|by simp];exact hU)
 have h6:(Code.seq (.region rid ops false) rest).wp P (Uo w0 F1 U1 fn.ntmps<|Ye P fn cs'<|.one<|.int k' m') a0 w:=wp_seq (wp_mono r λe a w hq=>by
  obtain⟨E',blk',FS',US',h1,h2,h3,h4⟩:=hq
  cases e<;>first|exact⟨E',blk',FS',US',h1,h2,h3,h4⟩|exact h1 _ _ _ _ _ _ _ _ h2 h3 h4)
 refine calls_of_wp hf hb<|wp_mono h6 ?_;rintro e' a w' ⟨E,blk',FS',US',⟨he,ss,E',h1,a9,b0,hfz⟩,h2,h3,h4⟩;obtain⟨us,FS2,US2,F,U,k1,k2,k3,k4,k5⟩:=Fe h2 h1;rw[h3,Ar]at k4;rw[h4,Ar]at k5;have b1:a.eval (.tmp 0)= .agg rs.toArray:=by
  have h7:=k3.frz 0 hfz;simp only[fZ,Nat.zero_mod,By,Nat.zero_div]at h7;rw[h7];have e0:(vs3.toArray++Array.replicate (fn.ntmps-vs3.toArray.size) undef)[0]?=some (.agg rs.toArray):=by
   rw[Hu<|by simp[vs3]];rfl
  simp only[w0,Function.comp,Act.eval,CD,e0,HI]
 have hs:=k3.slot 0;rw[b0,b1]at hs;obtain⟨b2,e1,hs⟩:=hs;have e2:rs=b2:=by simpa using e1
 subst e2;have hs:=GZ hs hfx';have o:a.defers=[]/\∃v,(results fn a.tmps).run P w'= .ok v w'/\∃v' F U G V,Ending.returned v= .returned v'/\jX w w' F1 U1 (.one<|.int k' m') [.sv<|.agg cs',.gone] [.agg rs.toArray,.int k m] v' F U G V:=by
  refine⟨h2.nodef,_,Ik k1,_,F,U,FS2<|.slot 0,US2<|.slot 0,rfl,?_⟩
  exact{
   res:=by rw[<-a9];exact Io k2
   fin:=⟨_,_,FS2<|.slot 0,[],US2<|.slot 0,[],rfl,by simp,by simp,⟨rs,rfl,hs⟩,_,_,[],[],[],[],rfl,rfl,rfl,⟨rfl,rfl⟩,rfl,rfl,rfl⟩
   nodup:=by
    rw[<-k4,BG];exact⟨k3.nodup _,k3.nodup _,λx hx y hy e=>k3.dis .hand (.slot 0) (by simp) x hx<|e▸hy⟩
   dis:=by
    intro b hb hb';rw[<-k4]at hb;rw[<-k5]at hb'
    rcases Au.1 hb with hb|hb<;>rcases Au.1 hb' with hb'|hb'
    ·exact k3.disU .hand .hand b hb hb'
    ·exact k3.disU .hand (.slot 0) b hb hb'
    ·exact k3.disU (.slot 0) .hand b hb hb'
    exact k3.disU (.slot 0) (.slot 0) b hb hb'
   inF:=by
    intro c hc;rw[<-k4]at hc;have:(c∈F1\/w1.heap.size<=c)/\c<w'.heap.size:=by
     rcases Au.1 hc with hc|hc
     ·exact k3.inF .hand c hc
     exact k3.inF (.slot 0) c hc
    rw[j]at this;exact⟨this.1.imp id (λq=>by omega),this.2⟩
   inU:=by
    intro c hc;rw[<-k5]at hc;have:(c∈U1\/c∈F1\/w1.heap.size<=c)/\c<w'.heap.size:=by
     rcases Au.1 hc with hc|hc
     ·exact k3.inU .hand c hc
     exact k3.inU (.slot 0) c hc
    rw[j]at this;exact⟨this.1.imp id (λq=>q.imp id λq=>by omega),this.2⟩
   os:=k3.os
   tape:=k3.tape
   output:=k3.output
   size:=by
    have:=k3.size;have e:w0.heap.size=w.heap.size+1:=j;omega
   keep:=λc hc hF=>by
    have e:w0.heap.size=w.heap.size+1:=j
    rw[k3.keep c (by omega) hF (λe=>by
     have:c=b:=by simpa[w0]using e
     rw[this]at hc
     exact absurd hc<|DJ _)]
    exact hk c hc}
 rcases he with rfl|rfl
 ·exact o
 exact o
theorem Nj {rr : β} {x : Option α} {k : α → Option β} {x1 : Tmp} {x2 : Operand} (h : x.bind k = some rr) (r : Root) (b seg post : List TV) (ag : Bool) (d : Nat) (m : Int) (g : α → Int) (fin : α → List TV) {tys : Array TypeId} (j : ∀ v, x = some v → An P f [.sv (DR ag seg), .sv (I m)] (I (g v)) [.sv (DR ag (fin v)), .gone]) (l : Ak seg = false) (hns' : ∀ v, Ak (fin v) = false) (hk : ∀ v, x = some v → k v = some rr → Ao P N ops rest (((E.setRoot r (b ++ (fin v ++ post))).bump r).put (some d) (I (g v))) Q) (c : n7 E r (b ++ (seg ++ post))) (n : ag = true ∨ seg.length = 1) (ho : oo.op = .call { callee := .value (.func f), args := #[.tmp x1, x2], argTypes := tys } := by rfl) (hx : E.slots x1 = DR ag (H4 E r [] b.length seg) := by rfl) (hy : E.cell1 P 0 x2 = some (.int .i64 m) := by rfl) (o : (b ++ (seg ++ post)).all Of = true := by rfl) (i : ∀ v, (fin v).length = seg.length := by exact fun _ => rfl) (hfx' : ∀ v, (fin v).all Of = true := by exact fun _ => rfl) (hf : P.funcs[f]? = some fn := by rfl) (hn : (fn.name == "runtime.NumGoroutine") = false := by rfl) (hb : fn.body.isNone = false := by rfl) (hd : oo.dst = some d := by rfl) (hN : Nat.blt d N = true := by rfl) (hg : Az P ops E oo = some true := by rfl) : Ao P N ops (oo :: rest) E Q := by
 obtain⟨v,hv,h⟩:=Ac.1 h;intro w0 FA UA w a blk FS US hr hF hU;simp only[wpList,AS hr hg,By];refine .inl (aV hr hF hU ho ⟨fn,hf,by intro e;rw[e]at hn;simp at hn,hb⟩ hd (by simpa[Bz]using hN) c hx n o (i v) l (hns' v) (hfx' v) hy (j v hv) λw' v' blk' FS' US' k1 k2 k3=>?_);rw[hd]at k1⊢;exact hk v hv h _ _ _ _ _ _ _ _ k1 k2 k3
theorem T8 {n:Int} (h1: -9223372036854775808<=n) (h2:n<=9223372036854775807):IntKind.i64.wrap n=n:=by rw[IntKind.wrap_i64];omega
theorem Cq {a b:Int} (h1: -9223372036854775808<=a+b:=by omega) (h2:a+b<=9223372036854775807:=by omega):ad a b=a+b:=T8 h1 h2
theorem C0 {a b:Int} (h1: -9223372036854775808<=a-b:=by omega) (h2:a-b<=9223372036854775807:=by omega):sb a b=a-b:=T8 h1 h2
theorem UV {a b:Int} (h1: -9223372036854775808<=a*b) (h2:a*b<=9223372036854775807):ml a b=a*b:=T8 h1 h2
theorem ad1 (h:i<9223372036854775807:=by omega):ad (i:Int) 1=((i+1:Nat):Int):=by grind [Cq]
theorem Qw (a b:ByteArray):seq a b=decide (a=b):=by
 unfold seq;rw[Bool.eq_iff_iff,mR,B5];constructor
 ·intro h;rw[ByteArray.toList_eq,ByteArray.toList_eq]at h;cases a;simp_all
 intro h;rw[h]
theorem A0:gi l (i:Int)=l[i]? :=by rfl
theorem DL:si l (i:Int) x=l.set i x:=by simp[si]
theorem Hb:decide ((i:Int)<ln l)=decide (i<l.length):=by
 simp[ln]
theorem cF {a b:α} [Decidable p] (h:¬p:=by omega):cond (decide p) a b=b:=by grind
theorem cT {a b:α} [Decidable p] (h:p:=by omega):cond (decide p) a b=a:=by grind
theorem HD {a b:β}:cond (decide (((l.length:Nat):Int)<ln l)) a b=b:=cF (by rw[ln];omega)
theorem Hc {a b:β} (h:i<l.length):cond (decide ((i:Int)<ln l)) a b=a:=cT (by rw[ln];omega)
def I9 (step:σ->Nat->α->σ⊕β) (fin:σ->β):List α->Nat->σ->β
 |[],_,s=>fin s
 |x::l,i,s=>match step s i x with
  | .inl s'=>I9 step fin l (i+1) s'
  | .inr b=>b
theorem UZ {body:S->Option (S⊕β)} (DR:σ->Int->S) (l:List α) (step:σ->Nat->α->σ⊕β) (fin:σ->β) (a:Nat->σ->Prop) (h1:∀s i x,l[i]?=some x->a i s->body (DR s (i:Nat))=some (match step s i x with| .inl s'=> .inl (DR s' ((i+1:Nat):Int))| .inr b=> .inr b)/\∀s',step s i x= .inl s'->a (i+1) s') (h2:∀s,a l.length s->body (DR s (l.length:Nat))=some (.inr (fin s))):∀(n i:Nat) (s:σ),i+n=l.length->a i s->Ah body (DR s (i:Nat))=some (I9 step fin (l.drop i) i s)
 |0,i,s,hi,hs=>by
  have:i=l.length:=by omega
  subst this;rw[A5,h2 s hs,DG<|A8 _];rfl
 |n+1,i,s,hi,hs=>by
  have c:i<l.length:=by omega
  obtain⟨h3,h4⟩:=h1 s i l[i] (Ab c) hs;rw[A5,h3,Bp c,I9]
  cases d:step s i l[i]with
  |inl s'=>simp only[];exact UZ DR l step fin a h1 h2 n (i+1) s' (by omega)<|h4 s' d
  |inr b=>rfl
theorem Jv {body:S->Option (S⊕β)} (DR:σ->Int->S) (l:List α) (step:σ->Nat->α->σ⊕β) (fin:σ->β) (a:Nat->σ->Prop) (h1:∀s i x,l[i]?=some x->a i s->body (DR s (i:Nat))=some (match step s i x with| .inl s'=> .inl (DR s' ((i+1:Nat):Int))| .inr b=> .inr b)/\∀s',step s i x= .inl s'->a (i+1) s') (h2:∀s,a l.length s->body (DR s (l.length:Nat))=some (.inr (fin s))) (hs:a 0 s):Ah body (DR s 0)=some (I9 step fin l 0 s):=
 UZ DR l step fin a h1 h2 l.length 0 s (by omega) hs
def zl (z:α->Nat) (l:List α):Nat:=l.length+(l.map z).sum
theorem Qe (h:x∈l):z x+1<=zl z l:=by
 unfold zl
 induction l with
 |nil=>cases h
 |cons y l ih=>grind
theorem Jg:l.length<=zl z l:=by unfold zl;omega
def BW (z:α->Nat) (f:α->Int->Option Int) (x:α):Prop:=∀left:Int,0<=left->left<=1048576->∃v,f x left=some v/\(if(z x:Int)<=left then v=left-z x else v<0)
theorem bS (z:α->Nat):∀(l:List α) (i:Nat) (left:Int),0<=left->I9 (λ(left:Int) _ x=>if(z x:Int)<=left then .inl (left-z x)else .inr (.inr (-1))) (λleft=>(.inl left:Int⊕Int)) l i left=if((l.map z).sum:Int)<=left then .inl (left-(l.map z).sum)else .inr (-1)
 |[],i,left,h=>by simp[I9,h]
 |x::l,i,left,h=>by
  have ih:=bS z l<|i+1;simp only[I9,BQ,EM];by_cases hx:(z x:Int)<=left
  ·rw[Bw hx];simp only;rw[ih _<|by omega];by_cases h2:((l.map z).sum:Int)<=left-z x
   ·rw[Bw h2,Bw<|by omega];congr 1;omega
   rw[Bm h2,Bm<|by omega]
  rw[Bm hx,Bm<|by omega]
theorem Pt {g:Int->Option Int} (z:α->Nat) (f:α->Int->Option Int) (l:List α) (hM:l.length<=9223372036854775807) (hf:∀x∈l,BW z f x) {body:Int×Int->Option ((Int×Int)⊕Int⊕Int)} (hb:∀left i,body (left,i)=bif decide (i<ln l)then((gi l i).bind λx=>(f x left).bind λv=>bif decide (v<0)then some (.inr (.inr (-1)))else some (.inl (v,ad i 1)))else some (.inr (.inl left))) (hg:∀left,g left=bif decide (sb left (ln l)<0)then some (-1)else(Ah body (sb left (ln l),0)).bind (Sum.elim (λv=>some v) some)) (left:Int) (h0:0<=left) (h1:left<=1048576):
  g left=some (if(zl z l:Int)<=left then left-zl z l else-1):=by
 have a:ln l=(l.length:Int):=rfl;rw[hg,C0 (by rw[a];omega) (by rw[a];omega),a];by_cases hs:left-(l.length:Int)<0
 ·rw[Ag hs,As,Bm (by unfold zl;omega)]
 rw[Aq hs,Ae];have:=Jv (body:=body) (λs i=>(s,i)) l (λ(left:Int) _ x=>if(z x:Int)<=left then .inl (left-z x)else .inr<|.inr<|-1) (λleft=>(.inl left:Int⊕Int)) (λi left=>0<=left/\left<=1048576)
  (λs i x hx hi=>by
   obtain⟨v,h2,h3⟩:=hf x (A3 hx) s hi.1 hi.2;have b:=(Ad.1 hx).1;refine⟨?_,?_⟩
   ·rw[hb,Hb,Ag b,As,A0,hx,Aa,h2,Aa,ad1<|by omega];by_cases hc:(z x:Int)<=s
    ·rw[Bw hc]at h3⊢;rw[Aq (by omega),Ae,h3]
    rw[Bm hc]at h3⊢;rw[Ag h3,As]
   intro s' hs';by_cases hc:(z x:Int)<=s
   ·rw[Bw hc]at hs'
    injection hs' with hs'
    omega
   rw[Bm hc]at hs'
   cases hs')
  (λs hi=>by rw[hb,Hb,Aq (by omega),Ae]) (s:=left-l.length) ⟨by omega,by omega⟩
 rw[this,bS _ _ _ _<|by omega];by_cases hc:((l.map z).sum:Int)<=left-l.length
 ·rw[Bw hc,Bw (by unfold zl;omega)];simp only[Aa,DD,zl];congr 1;omega
 rw[Bm hc,Bm (by unfold zl;omega)];rfl
theorem Kc {g:List α->Int->Option Int} (h:∀left:Int,0<=left->left<=1048576->g l left=some (if(zl z l:Int)<=left then left-zl z l else-1)):BW (zl z) g l:=by
 intro left h0 h1;refine⟨_,h left h0 h1,?_⟩;by_cases hc:(zl z l:Int)<=left
 ·rw[Bw hc,Bw hc]
 rw[Bm hc,Bm hc];omega
theorem Kq {z0:α} {g:Option (List α)} (f:α->Option α) (l:List α) (hM:l.length<=9223372036854775807) (hB:by_*l.length<=281474976710656) (hf:∀x∈l,f x=some x) {body:List α×Int->Option ((List α×Int)⊕List α)} (hb:∀a i,body (a,i)=bif decide (i<ln l)then((gi l i).bind λx=>(f x).bind λv=>(gi a i).bind λ_=>some (.inl (si a i v,ad i 1)))else some (.inr a)) (hg:g=(mk by_ z0 (ln l)).bind λc=>(Ah body (c,0)).bind λv=>some v):g=some l:=by
 have h:ln l=(l.length:Int):=rfl;have j:mk by_ z0 (ln l)=some (List.replicate l.length z0):=by
  unfold mk;have hB':((by_*l.length:Nat):Int)<=281474976710656:=by omega
  rw[Int.natCast_mul]at hB';rw[h,Bw ⟨by omega,hB',by omega⟩,Cx]
 rw[hg,j,Aa];have d:∀(m:List α) (i:Nat) (a:List α),I9 (λ(a:List α) i x=>(.inl (a.set i x):List α⊕List α)) (λa=>a) m i a=(m.zipIdx i).foldl (λa p=>a.set p.2 p.1) a:=by
  intro m
  induction m with
  |nil=>intro i a;rfl
  |cons x m ih=>intro i a;simp only[I9,QK,List.foldl_cons];exact ih _ _
 have e:∀(m b a:List α),a.length=b.length+m.length->a.take b.length=b->(m.zipIdx b.length).foldl (λa p=>a.set p.2 p.1) a=b++m:=by
  intro m
  induction m with
  |nil=>
   intro b a h1 h2;simp only[List.zipIdx_nil,List.foldl_nil,A6];rw[<-h2,AY (by simp at h1;omega)]
  |cons x m ih=>
   intro b a h1 h2;simp only[QK,List.foldl_cons]
   have:=ih (b++ [x]) (a.set b.length x) (by simp at h1⊢;omega) (by
    simp only[Bk]at h1
    rw[AG,CY,Ax (by simp;omega),List.take_set_of_le<|A8 _,h2,List.getElem_set_self])
   rw[AG,CY]at this;rw[this];simp
 have:=Jv (body:=body) (λs i=>(s,i)) l (λ(a:List α) i x=>(.inl (a.set i x):List α⊕List α)) (λa=>a) (λi a=>a.length=l.length)
  (λs i x hx hi=>by
   have k:=(Ad.1 hx).1;refine⟨?_,?_⟩
   ·rw[hb,Hb,Ag k,As,A0,hx,Aa,hf x<|A3 hx,Aa,A0,Ab (by omega),Aa,ad1 (by omega),DL]
   intro s' hs'
   injection hs' with hs'
   rw[<-hs',List.length_set,hi])
  (λs hi=>by rw[hb,Hb,Aq (by omega),Ae]) (s:=List.replicate l.length z0) (by simp)
 rw[this,d,Aa];exact Ce some<|e l [] _ (by simp)<|by simp
theorem mK {body:Int->Option (Int⊕Unit⊕Bool)} (a:List α) (b:List β) (p:α->β->Bool) (hl:a.length=b.length) (hM:a.length<=9223372036854775807) (h1:∀(i:Nat) x y,a[i]?=some x->b[i]?=some y->body (i:Nat)=some (bif p x y then .inl (((i+1:Nat)):Int)else .inr (.inr false))) (h2:body (a.length:Nat)=some (.inr (.inl ()))):
  Ah body 0=some (bif(a.zip b).all (λz=>p z.1 z.2)then .inl ()else .inr false):=by
 have hz:(a.zip b).length=a.length:=by simp[hl]
 have:=Jv (body:=body) (λ(_:Unit) i=>i) (a.zip b) (λ_ _ z=>bif p z.1 z.2 then .inl ()else .inr<|.inr false) (λ_=> .inl ()) (λ_ _=>True)
  (λs i x hx _=>by grind)
  (λs _=>by rw[hz];exact h2) (s:=()) trivial
 rw[this];have c:∀(m:List (α×β)) (i:Nat),I9 (λ(_:Unit) _ z=>bif p z.1 z.2 then .inl ()else .inr<|.inr false) (λ_=>(.inl ():Unit⊕Bool)) m i ()=bif m.all (λz=>p z.1 z.2)then .inl ()else .inr false:=by
  intro m
  induction m with
  |nil=>intro i;rfl
  |cons z m ih=>grind [I9]
 rw[c]
theorem bN {p:α->α->Bool}:∀{a b:List α},(∀x∈a,∀y∈b,p x y=true↔x=y)->a.length=b.length->((a.zip b).all (λz=>p z.1 z.2)=true↔a=b)
 |[],[],_,_=>by simp
 |x::a,y::b,hp,h=>by
  have ih:=bN (p:=p) (a:=a) (b:=b) (λx' hx y' hy=>hp x' (List.mem_cons_of_mem _ hx) y'<|List.mem_cons_of_mem _ hy) (by simpa using h);simp_all
 |[],_::_,_,h=>by simp at h
 |_::_,[],_,h=>by simp at h
def DV (f:Option Bool) (x y:γ):Prop:=∃v,f=some v/\(v=true↔x=y)
theorem K3 (f:α->α->Option Bool) (a b:List α) (hM:a.length<=9223372036854775807) (hf:∀x∈a,∀y∈b,DV (f x y) x y) {body:Int->Option (Int⊕Unit⊕Bool)} (hb:∀i,body i=bif decide (i<ln a)then((gi a i).bind λx=>(gi b i).bind λy=>(f x y).bind λv=>bif !v then some (.inr (.inr false))else some (.inl (ad i 1)))else some (.inr (.inl ()))) (hg:g=bif(ln a !=ln b)then some false else(Ah body 0).bind (Sum.elim (λ_=>some true) some)):DV g a b:=by
 by_cases hl:a.length=b.length
 ·have c:(ln a !=ln b)=false:=by simp[ln,hl]
  have:=mK (body:=body) a b (λx y=>(f x y).getD false) hl hM
   (λi x y hx hy=>by
    have d:=(Ad.1 hx).1;obtain⟨v,hv,_⟩:=hf x (A3 hx) y<|A3 hy
    grind [Hb,A0,ad1])
   (by grind [Hb])
  rw[this,c,Ae]at hg;refine⟨(a.zip b).all λz=>(f z.1 z.2).getD false,?_,bN (p:=λx y=>(f x y).getD false) (λx hx y hy=>?_) hl⟩
  ·grind
  obtain⟨v,hv,e⟩:=hf x hx y hy
  grind
 have c:(ln a !=ln b)=true:=by simp[ln];omega
 rw[c,As]at hg;exact⟨false,hg,by grind⟩
theorem O3 {f:Option Bool} {x:γ} (h:DV f x x):f=some true:=by
 obtain⟨v,h1,h2⟩:=h
 grind
def IS (f:Option Bool) (p:Prop):Prop:=∃v,f=some v/\(v=true↔p)
theorem Fy:IS (some true) True:=⟨true,rfl,by simp⟩
theorem CR {b:Bool} {f:Option Bool} (h:b=true↔¬p) (k:IS f q):IS (bif b then some false else f) (p/\q):=by
 cases b with
 |true=>exact⟨false,rfl,by simpa using λe=>absurd e<|h.1 rfl⟩
 |false=>
  obtain⟨v,h1,h2⟩:=k;have:p:=by
   refine Classical.byContradiction λe=>?_
   exact absurd (h.2 e)<|by simp
  exact⟨v,h1,by simp[this,h2]⟩
theorem G7 {f:Option Bool} (h:IS g p) (k:IS f q):IS (g.bind λv=>bif !v then some false else f) (p/\q):=by
 obtain⟨v,rfl,h⟩:=h;rw[Aa];exact CR (by cases v<;>simp_all) k
theorem gL {a b:ByteArray}:(!seq a b)=true↔¬a=b:=by rw[Qw];simp
theorem SH {body:S->Option (S⊕β)} (DR:σ->Int->S) (n:Nat) (a:Nat->σ->Prop) (Q:β->Prop) (h1:∀s i,i<n->a i s->(∃s',body (DR s (i:Nat))=some (.inl (DR s' ((i+1:Nat):Int)))/\a (i+1) s')\/∃b,body (DR s (i:Nat))=some (.inr b)/\Q b) (h2:∀s,a n s->∃b,body (DR s (n:Nat))=some (.inr b)/\Q b):∀(k i:Nat) (s:σ),i+k=n->a i s->∃b,Ah body (DR s (i:Nat))=some b/\Q b
 |0,i,s,hi,hs=>by grind [A5]
 |k+1,i,s,hi,hs=>by
  rcases h1 s i (by omega) hs with⟨s',h3,h4⟩|⟨b,h3,h4⟩
  ·obtain⟨b,h5,h6⟩:=SH DR n a Q h1 h2 k (i+1) s' (by omega) h4
   grind [A5]
  grind [A5]
theorem Bs {body:S->Option (S⊕β)} (DR:σ->Int->S) (n:Nat) (a:Nat->σ->Prop) (Q:β->Prop) (h1:∀s i,i<n->a i s->(∃s',body (DR s (i:Nat))=some (.inl (DR s' ((i+1:Nat):Int)))/\a (i+1) s')\/∃b,body (DR s (i:Nat))=some (.inr b)/\Q b) (h2:∀s,a n s->∃b,body (DR s (n:Nat))=some (.inr b)/\Q b) (hs:a 0 s):∃b,Ah body (DR s 0)=some b/\Q b:=
 SH DR n a Q h1 h2 n 0 s (by omega) hs
theorem Va {body body':S->Option (S⊕β)} (DR:σ->Int->S) (n:Nat) (a:Nat->σ->Prop) (Q:β->Prop) (h1:∀s i,i<n->a i s->body' (DR s (i:Nat))=body (DR s (i:Nat))/\((∃s',body (DR s (i:Nat))=some (.inl (DR s' ((i+1:Nat):Int)))/\a (i+1) s')\/∃b,body (DR s (i:Nat))=some (.inr b)/\Q b)) (h2:∀s,a n s->body' (DR s (n:Nat))=body (DR s (n:Nat))/\∃b,body (DR s (n:Nat))=some (.inr b)/\Q b):∀(k i:Nat) (s:σ),i+k=n->a i s->∃b,Ah body (DR s (i:Nat))=some b/\Ah body' (DR s (i:Nat))=some b/\Q b
 |0,i,s,hi,hs=>by grind [A5]
 |k+1,i,s,hi,hs=>by
  obtain⟨e,h⟩:=h1 s i (by omega) hs
  rcases h with⟨s',h3,h4⟩|⟨b,h3,h4⟩
  ·obtain⟨b,h5,h6,h7⟩:=Va DR n a Q h1 h2 k (i+1) s' (by omega) h4
   grind [A5]
  grind [A5]
theorem ML {body body':S->Option (S⊕β)} (DR:σ->Int->S) (n:Nat) (a:Nat->σ->Prop) (Q:β->Prop) (h1:∀s i,i<n->a i s->body' (DR s (i:Nat))=body (DR s (i:Nat))/\((∃s',body (DR s (i:Nat))=some (.inl (DR s' ((i+1:Nat):Int)))/\a (i+1) s')\/∃b,body (DR s (i:Nat))=some (.inr b)/\Q b)) (h2:∀s,a n s->body' (DR s (n:Nat))=body (DR s (n:Nat))/\∃b,body (DR s (n:Nat))=some (.inr b)/\Q b) (hs:a 0 s):∃b,Ah body (DR s 0)=some b/\Ah body' (DR s 0)=some b/\Q b:=
 Va DR n a Q h1 h2 n 0 s (by omega) hs
theorem Yb {body:Int->Option (Int⊕β)} (l:List α) (p:Nat->α->Bool) (no yes:β) (hM:l.length<=9223372036854775807) (h1:∀(i:Nat) x,l[i]?=some x->body (i:Nat)=some (bif p i x then .inl (((i+1:Nat)):Int)else .inr no)) (h2:body (l.length:Nat)=some (.inr yes)):
  Ah body 0=some (bif l.zipIdx.all (λz=>p z.2 z.1)then yes else no):=by
 have:=Jv (body:=body) (λ(_:Unit) i=>i) l (λ_ i x=>bif p i x then .inl ()else .inr no) (λ_=>yes) (λ_ _=>True)
  (λs i x hx _=>by grind)
  (λs _=>h2) (s:=()) trivial
 rw[this];have a:∀(m:List α) (i:Nat),I9 (λ(_:Unit) i x=>bif p i x then .inl ()else .inr no) (λ_=>yes) m i ()=bif(m.zipIdx i).all (λz=>p z.2 z.1)then yes else no:=by
  intro m
  induction m with
  |nil=>intro i;rfl
  |cons z m ih=>grind [QK,I9]
 rw[a]
theorem SG {body:Int×List γ->Option ((Int×List γ)⊕List γ)} (l:List α) (f:α->γ) (h1:∀(i:Nat) x (a:List γ),l[i]?=some x->a.length=i->body ((i:Nat),a)=some (.inl (((i+1:Nat):Int),a++ [f x]))) (h2:∀a,body ((l.length:Nat),a)=some (.inr a)):
  Ah body (0,[])=some (l.map f):=by
 have:=Jv (body:=body) (λ(s:List γ) i=>(i,s)) l (λa _ x=>(.inl (a++ [f x]):List γ⊕List γ)) (λa=>a) (λi a=>a.length=i)
  (λs i x hx hi=>by grind)
  (λs _=>h2 s) (s:=[]) rfl
 rw[this];have b:∀(m:List α) (i:Nat) (a:List γ),I9 (λa _ x=>(.inl (a++ [f x]):List γ⊕List γ)) (λa=>a) m i a=a++m.map f:=by
  intro m
  induction m with
  |nil=>grind [I9]
  |cons z m ih=>grind [I9]
 grind
theorem SE {z:α} (h:by_*n<=281474976710656) (h2:n<=9223372036854775807):mk by_ z (n:Int)=some (List.replicate n z):=by
 unfold mk
 grind
theorem CC {m:List α} (h:(l.length+m.length)*by_<=140737488355328):ap by_ l m=some (l++m):=Bw h
theorem Yv {i:Int} (h1:0<=i) (h2:i<l.length):gi l i=some (l[i.toNat]'(by omega)):=by
 unfold gi
 grind
theorem Cs:ln l=(l.length:Int):=rfl
def L (s:ByteArray):List UInt8:=s.data.toList
theorem dQ {a b:ByteArray} (h:L a=L b):a=b:=by
 cases a;simp_all [L]
theorem T1 (s:ByteArray):(L s).length=s.size:=by cases s;rfl
theorem Ow (a b:ByteArray):L (a++b)=L a++L b:=by simp[L]
theorem T3 (l:List UInt8):L (bs l)=l:=by simp[L,bs]
theorem WO (l:List Int):L (NN l)=l.map λn=>UInt8.ofNat n.toNat:=strOfNums_data l
theorem YK (s:ByteArray) (i j:Nat):L (s.extract i j)=((L s).drop i).take (j-i):=by simp[L]
theorem Ei (s:ByteArray):GJ s=((L s).length:Int):=by rw[T1];rfl
theorem Qs (s:ByteArray) (h:i<(L s).length):sx s (i:Int)=some (((L s)[i]).toNat:Int):=by
 have h':i<s.size:=by grind [T1]
 unfold sx;rw[Bw ⟨by omega,by omega⟩];unfold AB.bt;rw[dif_pos<|by simpa using h'];rfl
theorem R9 (s:ByteArray) (h1:i<=j) (h2:j<=(L s).length):sub s (i:Int) (j:Int)=some (s.extract i j):=by grind [T1,sub]
theorem Kj (a b:ByteArray) (h:(L a).length+(L b).length<=9223372036854775807):Uk a b=some (a++b):=by grind [T1,Uk]
theorem X8 (a b:ByteArray):seq a b=decide (L a=L b):=by grind [Qw,dQ]
def J9 (n:Nat):List UInt8:=if h:n<=127 then [UInt8.ofNat n]else UInt8.ofNat (n %128+128)::J9 (n/128)
termination_by n
decreasing_by omega
def Gs:List UInt8->Nat
 |[]=>0
 |d::ds=>d.toNat %128+128*Gs ds
theorem QU:∀(ds es:List UInt8),Gs (ds++es)=Gs ds+128^ds.length*Gs es
 |[],es=>by simp[Gs]
 |d::ds,es=>by
  simp only[CB,Gs,QU ds es,Bk,Nat.pow_succ]
  grind
theorem bP (d:UInt8):d.toNat<256:=d.toNat_lt
theorem OM (h:n<=127):J9 n=[UInt8.ofNat n]:=by rw[J9,dif_pos h]
theorem Y6 (h:¬n<=127):J9 n=UInt8.ofNat (n %128+128)::J9 (n/128):=by rw[J9,dif_neg h]
theorem Uv:∀{ds:List UInt8} {x:UInt8},Gs (ds++ [x])=0->x.toNat<128->x.toNat=0
 |[],x,h,hx=>by grind [Gs]
 |d::ds,x,h,hx=>by
  simp only[CB,Gs]at h;exact Uv (ds:=ds) (by omega) hx
theorem Vj:∀(ds:List UInt8) (x:UInt8),(∀d∈ds,128<=d.toNat)->x.toNat<128->(J9 (Gs (ds++ [x]))=ds++ [x]↔¬(x.toNat=0/\ds≠ []))
 |[],x,_,hx=>by
  have:Gs ([]++ [x])=x.toNat:=by simp[Gs];omega
  rw[this,OM<|by omega];simp
 |d::ds,x,hd,hx=>by
  have ih:=Vj ds x (λe he=>hd e<|List.mem_cons_of_mem _ he) hx;have h1:=hd d Ec;have h2:=bP d;have hv:Gs (d::ds++ [x])=d.toNat-128+128*Gs (ds++ [x]):=by grind [Gs]
  rw[hv];by_cases h0:Gs (ds++ [x])=0
  ·have a:=Uv h0 hx;rw[h0,OM<|by omega];simp_all
  rw[Y6<|by omega]
  grind [UInt8.ofNat_toNat,Gs]
theorem Vk {body:Int×List Int->Option ((Int×List Int)⊕(Int×List Int))} (hb:∀n a,body (n,a)=bif decide (n>127)then((ap 1 a [IntKind.u8.wrap (ad (Int.tmod n 128) 128)]).bind λc=>some (.inl (qu n 128,c)))else some (.inr (n,a))):
  ∀(n:Nat) (a:List Int),a.length+n<=1099511627776->∃(m:Nat) (o:List Int),Ah body ((n:Int),a)=some ((m:Int),o)/\m<=127/\o.length<=a.length+n/\(o++ [(m:Int)]).map (λn=>UInt8.ofNat n.toNat)=a.map (λn=>UInt8.ofNat n.toNat)++J9 n
 |n,a,h=>by
  rw[A5,hb];by_cases hn:n<=127
  ·rw[Aq (by omega),Ae]
   grind [OM]
  rw[Ag (by omega),As,CC (by grind),Aa];have e1:Int.tmod (n:Int) 128=((n %128:Nat):Int):=rfl;have e2:qu (n:Int) 128=((n/128:Nat):Int):=by grind [T8,qu]
  have e3:IntKind.u8.wrap (ad (Int.tmod (n:Int) 128) 128)=((n %128+128:Nat):Int):=by grind [Cq,IntKind.wrap_u8]
  obtain⟨m,o,h1,h2,h3,h4⟩:=Vk hb (n/128) (a++ [((n %128+128:Nat):Int)]) (by grind);rw[e2,e3];refine⟨m,o,h1,h2,by grind,?_⟩
  grind [Y6]
termination_by n=>n
decreasing_by omega
theorem p9 {s:Int} (h0:0<=s) (h1:s<4294967296):IntKind.u32.wrap (Int.tdiv s 2)=Int.fdiv s (2^(min (1:Int).toNat IntKind.u32.bits)):=by grind [IntKind.wrap_u32,IntKind.bits]
theorem t6 {s:Int} (h0:0<=s) (h1:s<4294967296):an s 1=Int.tmod s 2:=by grind [BE,IntKind.wrap_u32,an]
theorem nD (a b:Int):0<=xr a b/\xr a b<4294967296:=by grind [IntKind.wrap_u32,xr]
theorem UY {body:S->Option (S⊕β)} (DR:σ->Int->S) (mkS':σ->Int->S') (n:Nat) (a:Nat->σ->Prop) (Q:β->Prop) (h1:∀s i,i<n->a i s->(∃s',body (DR s (i:Nat))=some (.inl (DR s' ((i+1:Nat):Int)))/\body' (mkS' s (i:Nat))=some (.inl (mkS' s' ((i+1:Nat):Int)))/\a (i+1) s')\/∃b,body (DR s (i:Nat))=some (.inr b)/\body' (mkS' s (i:Nat))=some (.inr b)/\Q b) (h2:∀s,a n s->∃b,body (DR s (n:Nat))=some (.inr b)/\body' (mkS' s (n:Nat))=some (.inr b)/\Q b):∀(k i:Nat) (s:σ),i+k=n->a i s->∃b,Ah body (DR s (i:Nat))=some b/\Ah body' (mkS' s (i:Nat))=some b/\Q b
 |0,i,s,hi,hs=>by grind [A5]
 |k+1,i,s,hi,hs=>by
  rcases h1 s i (by omega) hs with⟨s',h3,h4,h5⟩|⟨b,h3,h4,h5⟩
  ·obtain⟨b,h6,h7,h8⟩:=UY DR mkS' n a Q h1 h2 k (i+1) s' (by omega) h5
   grind [A5]
  grind [A5]
theorem Ya {body:S->Option (S⊕β)} (DR:σ->Int->S) (mkS':σ->Int->S') (n:Nat) (a:Nat->σ->Prop) (Q:β->Prop) (h1:∀s i,i<n->a i s->(∃s',body (DR s (i:Nat))=some (.inl (DR s' ((i+1:Nat):Int)))/\body' (mkS' s (i:Nat))=some (.inl (mkS' s' ((i+1:Nat):Int)))/\a (i+1) s')\/∃b,body (DR s (i:Nat))=some (.inr b)/\body' (mkS' s (i:Nat))=some (.inr b)/\Q b) (h2:∀s,a n s->∃b,body (DR s (n:Nat))=some (.inr b)/\body' (mkS' s (n:Nat))=some (.inr b)/\Q b) (hs:a 0 s):∃b,Ah body (DR s 0)=some b/\Ah body' (mkS' s 0)=some b/\Q b:=
 UY DR mkS' n a Q h1 h2 n 0 s (by omega) hs
theorem Qy {body:S->Option (S⊕β)} (φ:S->S') (h:∀s,body' (φ s)=(body s).map (Sum.map φ id)):∀(n:Nat) (s:S),Kg body' n (φ s)=Kg body n s
 |0,_=>rfl
 |n+1,s=>by
  simp only[Kg,h]
  cases body s with
  |none=>rfl
  |some o=>
   cases o with
   |inl s'=>exact Qy φ h n s'
   |inr b=>rfl
theorem ZX {body:S->Option (S⊕β)} (φ:S->S') (h:∀s,body' (φ s)=(body s).map (Sum.map φ id)) (s:S):Ah body' (φ s)=Ah body s:=by
 have b:∀a,Ah body' (φ s)=some a↔Ah body s=some a:=λa=>by
  rw[DS,DS];exact⟨λ⟨n,hn⟩=>⟨n,by rw[<-Qy φ h];exact hn⟩,λ⟨n,hn⟩=>⟨n,by rw[Qy φ h];exact hn⟩⟩
 cases hx:Ah body s with
 |some a=>grind
 |none=>
  cases hy:Ah body' (φ s)with
  |none=>rfl
  |some a=>grind
theorem OA {body:S->Option (S⊕β)} (φ:S->S') (I:S->Prop) (h:∀s,I s->body' (φ s)=(body s).map (Sum.map φ id)) (hI:∀s s',I s->body s=some (.inl s')->I s'):∀(n:Nat) (s:S),I s->Kg body' n (φ s)=Kg body n s
 |0,_,_=>rfl
 |n+1,s,hs=>by
  simp only[Kg,h s hs]
  cases hb:body s with
  |none=>rfl
  |some o=>
   cases o with
   |inl s'=>exact OA φ I h hI n s' (hI s s' hs hb)
   |inr b=>rfl
theorem Yc {body:S->Option (S⊕β)} (φ:S->S') (I:S->Prop) (h:∀s,I s->body' (φ s)=(body s).map (Sum.map φ id)) (hI:∀s s',I s->body s=some (.inl s')->I s') (s:S) (hs:I s):Ah body' (φ s)=Ah body s:=by
 have b:∀a,Ah body' (φ s)=some a↔Ah body s=some a:=λa=>by
  rw[DS,DS];exact⟨λ⟨n,hn⟩=>⟨n,by rw[<-OA φ I h hI n s hs];exact hn⟩,λ⟨n,hn⟩=>⟨n,by rw[OA φ I h hI n s hs];exact hn⟩⟩
 cases hx:Ah body s with
 |some a=>grind
 |none=>
  cases hy:Ah body' (φ s)with
  |none=>rfl
  |some a=>grind
theorem eW {s:S} {b:β} {body:S->Option (S⊕β)} (I:S->Prop) (Q:β->Prop) (hI:∀s s',I s->body s=some (.inl s')->I s') (hQ:∀s b,I s->body s=some (.inr b)->Q b) (hs:I s) (h:Ah body s=some b):Q b:=by
 obtain⟨n,hn⟩:=DS.1 h;clear h
 induction n generalizing s with
 |zero=>cases hn
 |succ n ih=>grind [Kg]
theorem X3 (z:α->Nat):∀(l:List α) (i:Nat) (h:i<l.length),((l.take (i+1)).map z).sum=((l.take i).map z).sum+z l[i]
 |[],i,h=>by simp at h
 |x::l,0,h=>by simp
 |x::l,i+1,h=>by
  simp only[List.take_succ_cons,BQ,EM,List.getElem_cons_succ];rw[X3 z l i (by simpa using h)];omega
theorem X2 (z:α->Nat) (l:List α) (i:Nat):((l.take i).map z).sum<=(l.map z).sum:=by grind [BB]
def CL (c:α->Nat) (f:Int->α->α):List α->Int->List α
 |[],_=>[]
 |x::l,k=>f k x::CL c f l (k+c x)
theorem Df (c:α->Nat) (f:Int->α->α):∀(l:List α) (k:Int),(CL c f l k).length=l.length
 |[],_=>rfl
 |x::l,k=>by simp[CL,Df c f l]
theorem L6 (a:List α) (x:α) (post:List α):gi (a++x::post) (a.length:Nat)=some x:=by grind [A0]
theorem KP (a:List α) (x y:α) (post:List α):si (a++x::post) (a.length:Nat) y=a++y::post:=by grind [DL]
theorem N4 (a:List α) (x:α) (post:List α):decide (((a.length:Nat):Int)<ln (a++x::post))=true:=by
 rw[Hb];simp
theorem N5 (m:List α) (h:m.length=n):decide (((n:Nat):Int)<ln m)=false:=by
 rw[Hb,h];simp
theorem UX {body:List α×Int×Int->Option ((List α×Int×Int)⊕(List α×Int))} (c:α->Nat) (f:Int->α->α) (P:α->Prop) (B:Int) (n:Nat) (h1:∀(a:List α) (x:α) (post:List α) (k:Int),a.length+post.length+1=n->P x->0<=k->k+c x<=B->body (a++x::post,k,((a.length:Nat):Int))=some (.inl (a++f k x::post,k+c x,((a.length+1:Nat):Int)))) (h2:∀(m:List α) (k:Int),m.length=n->body (m,k,((n:Nat):Int))=some (.inr (m,k))):∀(post a:List α) (k:Int),a.length+post.length=n->(∀x∈post,P x)->0<=k->k+(((post.map c).sum:Nat):Int)<=B->
   Ah body (a++post,k,((a.length:Nat):Int))=some (a++CL c f post k,k+(((post.map c).sum:Nat):Int))
 |[],a,k,hn,_,_,_=>by
  have:a.length=n:=by simpa using hn
  rw[A5,this,h2 _ k<|by simpa using this];simp[CL]
 |x::post,a,k,hn,hP,h0,hB=>by
  simp only[BQ,EM]at hB⊢;simp only[Bk]at hn;rw[A5,h1 a x post k (by omega) (hP x<|by simp) h0<|by omega];have:=UX c f P B n h1 h2 post (a++ [f k x]) (k+c x) (by simp;omega) (λy hy=>hP y<|by simp[hy]) (by omega) (by omega);simp only[Cw,List.singleton_append,AG,CY]at this;simp only[];rw[this];simp only[CL];congr 2;omega
theorem Jb {g:Option (Int×List α)} {k:Int} {body:List α×Int×Int->Option ((List α×Int×Int)⊕(List α×Int))} (c:α->Nat) (f:Int->α->α) (P:α->Prop) (B:Int) (l:List α) (hg:g=(Ah body (l,k,0)).bind λv=>some (v.2,v.1)) (h1:∀(a:List α) (x:α) (post:List α) (k:Int),a.length+post.length+1=l.length->P x->0<=k->k+c x<=B->body (a++x::post,k,((a.length:Nat):Int))=some (.inl (a++f k x::post,k+c x,((a.length+1:Nat):Int)))) (h2:∀(m:List α) (k:Int),m.length=l.length->body (m,k,((l.length:Nat):Int))=some (.inr (m,k))) (hP:∀x∈l,P x) (h0:0<=k) (hB:k+(((l.map c).sum:Nat):Int)<=B):
  g=some (k+(((l.map c).sum:Nat):Int),CL c f l k):=by
 have:=UX c f P B l.length h1 h2 l [] k (by simp) hP h0 hB;simp only[Ar,RO,Int.ofNat_zero]at this;rw[hg];rw[this];rfl
theorem Vg {body:Int×Int->Option ((Int×Int)⊕Int⊕β)} (c:α->Nat) (f:Int->α->α) (P:α->Prop) (B:Int) (m:List α) (h1:∀(i:Nat) (x:α) (k:Int),m[i]?=some (f k x)->P x->0<=k->k+c x<=B->body (k,(i:Int))=some (.inl (k+c x,((i+1:Nat):Int)))) (h2:∀(k:Int),body (k,((m.length:Nat):Int))=some (.inr (.inl k))):∀(post a:List α) (k:Int),m=a++CL c f post k->(∀x∈post,P x)->0<=k->k+(((post.map c).sum:Nat):Int)<=B->
   Ah body (k,((a.length:Nat):Int))=some (.inl (k+(((post.map c).sum:Nat):Int)))
 |[],a,k,hm,_,_,_=>by
  have:m.length=a.length:=by rw[hm];simp[CL]
  rw[A5,<-this,h2];simp
 |x::post,a,k,hm,hP,h0,hB=>by
  simp only[BQ,EM]at hB⊢;simp only[CL]at hm;have hg:m[a.length]?=some (f k x):=by rw[hm,Bj<|A8 _];simp
  rw[A5,h1 a.length x k hg (hP x<|by simp) h0<|by omega];have:=Vg c f P B m h1 h2 post (a++ [f k x]) (k+c x) (by rw[hm];simp) (λy hy=>hP y<|by simp[hy]) (by omega) (by omega);simp only[AG,CY]at this;simp only[];rw[this];congr 2;omega
theorem K2 {k:Int} {body:Int×Int->Option ((Int×Int)⊕Int⊕β)} (c:α->Nat) (f:Int->α->α) (P:α->Prop) (B:Int) (l:List α) (h1:∀(i:Nat) (x:α) (k':Int),i<l.length->(CL c f l k)[i]?=some (f k' x)->P x->0<=k'->k'+c x<=B->body (k',(i:Int))=some (.inl (k'+c x,((i+1:Nat):Int)))) (h2:∀(k:Int),body (k,((l.length:Nat):Int))=some (.inr (.inl k))) (hP:∀x∈l,P x) (h0:0<=k) (hB:k+(((l.map c).sum:Nat):Int)<=B):
  Ah body (k,0)=some (.inl (k+(((l.map c).sum:Nat):Int))):=by
 have:=Vg c f P B (CL c f l k) (λi x k' hg=>h1 i x k' (by have:=(Ad.1 hg).1;rwa [Df]at this) hg) (λk'=>by rw[Df];exact h2 k') l [] k (by simp) hP h0 hB;exact this
theorem C7 (c:Nat) (l:List α):(l.map λ_=>c).sum=c*l.length:=by
 induction l with
 |nil=>simp
 |cons x l ih=>simp only[BQ,EM,Bk,ih,Nat.mul_succ];omega
theorem Qt {c:α->Nat} (h:∀x,c x<=z x):(l.map c).sum<=(l.map z).sum:=by
 induction l with
 |nil=>simp
 |cons x l ih=>simp only[BQ,EM];have:=h x;omega
theorem Rn {body:Int×ByteArray->Option ((Int×ByteArray)⊕ByteArray)} (h1:∀(k:Int) (t:ByteArray),k>0->k<=9223372036854775807->(L t).length<=1000->body (k,t)=some (.inl (k.tdiv 10,NN [IntKind.u8.wrap (ad 48 (Int.tmod k 10))]++t))) (h2:∀k t,k<=0->body (k,t)=some (.inr t)):
  ∀(n:Nat) (k:Int) (t:ByteArray),k<(10:Int)^n->k<=9223372036854775807->(L t).length+n<=1000->∃u,Ah body (k,t)=some u/\(L u).length<=1000
 |0,k,t,h,_,ht=>by
  rw[A5,h2 k t (by simp at h;omega)];exact⟨_,rfl,by omega⟩
 |n+1,k,t,h,hM,ht=>by
  by_cases hk:k>0
  ·rw[A5,h1 k t hk hM (by omega)];have e:k.tdiv 10=k/10:=Int.tdiv_eq_ediv_of_nonneg (by omega);refine Rn h1 h2 n _ _ ?_ (by omega) ?_
   ·rw[e];rw[Int.pow_succ]at h;omega
   rw[Ow,AG,WO];simp;omega
  rw[A5,h2 k t<|by omega];exact⟨_,rfl,by omega⟩
noncomputable section
def Cy (lt:γ->γ->Bool) (xA:Int) (xB:Int) (xN:Int) (a:Int) (b:List γ):Option ((Int×List γ)⊕(List γ)):=cond (decide<|a<xN) ((Zv b (ad xA a)<|ad xB a).bind λv1=>some<|.inl (ad a 1,v1))<|some<|.inr b
def BO (lt:γ->γ->Bool) (xL:List γ) (xA:Int) (xB:Int) (xN:Int):Option (List γ):=(Ah (λs:Int×List γ=>Cy lt xA xB xN s.1 s.2) (0,xL)).bind λv2=>some v2
def CQ (lt:γ->γ->Bool) (xM:Int) (a:Int) (b:Int) (c:List γ):Option ((Int×Int×List γ)⊕(Int×List γ)):=cond (a !=b) (cond (decide<|a>b) ((BO lt c (sb xM a) xM b).bind λv1=>some<|.inl (sb a b,b,v1))<|(BO lt c (sb xM a) (sb (ad xM b) a) a).bind λv2=>some<|.inl (a,sb b a,v2))<|some<|.inr (a,c)
def De (lt:γ->γ->Bool) (xL:List γ) (xA:Int) (xM:Int) (xB:Int):Option (List γ):=(Ah (λs:Int×Int×List γ=>CQ lt xM s.1 s.2.1 s.2.2) (sb xM xA,sb xB xM,xL)).bind λv3=>(BO lt v3.2 (sb xM v3.1) xM v3.1).bind λv4=>some v4
def AH (lt:γ->γ->Bool) (xA:Int) (a:Int) (b:List γ):Option ((Int×List γ)⊕(List γ)):=(cond (decide<|a>xA) ((fW b a<|sb a 1).bind λv1=>some<|lt v1.1 v1.2) (some false):Option Bool).bind λj1=>cond j1 ((Zv b a<|sb a 1).bind λv2=>some<|.inl (sb a 1,v2))<|some<|.inr b
def AD (lt:γ->γ->Bool) (xA:Int) (xB:Int) (a:Int) (b:List γ):Option ((Int×List γ)⊕(List γ)):=cond (decide<|a<xB) ((Ah (λs:Int×List γ=>AH lt xA s.1 s.2) (a,b)).bind λv3=>some<|.inl (ad a 1,v3))<|some<|.inr b
def Be (lt:γ->γ->Bool) (xL:List γ) (xA:Int) (xB:Int):Option (List γ):=(Ah (λs:Int×List γ=>AD lt xA xB s.1 s.2) (ad xA 1,xL)).bind λv4=>some v4
def C5 (lt:γ->γ->Bool) (xL:List γ) (xA:Int) (a:Int) (b:Int):Option ((Int×Int)⊕Int):=cond (decide<|a<b) ((fW xL (IntKind.i64.wrap<|Int.fdiv (IntKind.u64.wrap<|ad a b)<|2^(min (1:Int).toNat IntKind.u64.bits)) xA).bind λv1=>cond (lt v1.1 v1.2) (some<|.inl (ad (IntKind.i64.wrap<|Int.fdiv (IntKind.u64.wrap<|ad a b)<|2^(min (1:Int).toNat IntKind.u64.bits)) 1,b))<|some<|.inl (a,IntKind.i64.wrap<|Int.fdiv (IntKind.u64.wrap<|ad a b)<|2^(min (1:Int).toNat IntKind.u64.bits)))<|some<|.inr a
def Cg (lt:γ->γ->Bool) (v2:Int) (a:Int) (b:List γ):Option ((Int×List γ)⊕(List γ)):=cond (decide<|a<(sb v2 1)) ((Zv b a<|ad a 1).bind λv3=>some<|.inl (ad a 1,v3))<|some<|.inr b
def C4 (lt:γ->γ->Bool) (xL:List γ) (xM:Int) (a:Int) (b:Int):Option ((Int×Int)⊕Int):=cond (decide<|a<b) ((fW xL xM<|IntKind.i64.wrap<|Int.fdiv (IntKind.u64.wrap<|ad a b)<|2^(min (1:Int).toNat IntKind.u64.bits)).bind λv5=>cond (!(lt v5.1 v5.2)) (some<|.inl (ad (IntKind.i64.wrap<|Int.fdiv (IntKind.u64.wrap<|ad a b)<|2^(min (1:Int).toNat IntKind.u64.bits)) 1,b))<|some<|.inl (a,IntKind.i64.wrap<|Int.fdiv (IntKind.u64.wrap<|ad a b)<|2^(min (1:Int).toNat IntKind.u64.bits)))<|some<|.inr a
def Cf (lt:γ->γ->Bool) (v6:Int) (a:Int) (b:List γ):Option ((Int×List γ)⊕(List γ)):=cond (decide<|a>v6) ((Zv b a<|sb a 1).bind λv7=>some<|.inl (sb a 1,v7))<|some<|.inr b
def C3 (lt:γ->γ->Bool) (xL:List γ) (xA:Int) (xM:Int) (xB:Int) (a:Int) (b:Int):Option ((Int×Int)⊕Int):=cond (decide<|a<b) ((fW xL (sb (sb (ad (IntKind.i64.wrap<|Int.fdiv (IntKind.u64.wrap<|ad xA xB)<|2^(min (1:Int).toNat IntKind.u64.bits)) xM) 1)<|IntKind.i64.wrap<|Int.fdiv (IntKind.u64.wrap<|ad a b)<|2^(min (1:Int).toNat IntKind.u64.bits))<|IntKind.i64.wrap<|Int.fdiv (IntKind.u64.wrap<|ad a b)<|2^(min (1:Int).toNat IntKind.u64.bits)).bind λv9=>cond (!(lt v9.1 v9.2)) (some<|.inl (ad (IntKind.i64.wrap<|Int.fdiv (IntKind.u64.wrap<|ad a b)<|2^(min (1:Int).toNat IntKind.u64.bits)) 1,b))<|some<|.inl (a,IntKind.i64.wrap<|Int.fdiv (IntKind.u64.wrap<|ad a b)<|2^(min (1:Int).toNat IntKind.u64.bits)))<|some<|.inr a
def B9 (lt:γ->γ->Bool):Nat->(List γ)->Int->Int->Int->Option (List γ)
 |0,_,_,_,_=>none
 |n+1,xL,xA,xM,xB=>cond ((sb xM xA)==1) ((Ah (λs:Int×Int=>C5 lt xL xA s.1 s.2) (xM,xB)).bind λv2=>(Ah (λs:Int×List γ=>Cg lt v2 s.1 s.2) (xA,xL)).bind λv4=>some v4) (cond ((sb xB xM)==1) ((Ah (λs:Int×Int=>C4 lt xL xM s.1 s.2) (xA,xM)).bind λv6=>(Ah (λs:Int×List γ=>Cf lt v6 s.1 s.2) (xM,xL)).bind λv8=>some v8) ((cond (decide (xM>(IntKind.i64.wrap (Int.fdiv (IntKind.u64.wrap (ad xA xB)) (2^(min (1:Int).toNat IntKind.u64.bits)))))) (some (sb (ad (IntKind.i64.wrap (Int.fdiv (IntKind.u64.wrap (ad xA xB)) (2^(min (1:Int).toNat IntKind.u64.bits)))) xM) xB,IntKind.i64.wrap (Int.fdiv (IntKind.u64.wrap (ad xA xB)) (2^(min (1:Int).toNat IntKind.u64.bits))))) (some (xA,xM)):Option (Int×Int)).bind λj1=>(Ah (λs:Int×Int=>C3 lt xL xA xM xB s.1 s.2) (j1.1,j1.2)).bind λv10=>(cond (decide (v10<xM)) (some (decide (xM<(sb (ad (IntKind.i64.wrap (Int.fdiv (IntKind.u64.wrap (ad xA xB)) (2^(min (1:Int).toNat IntKind.u64.bits)))) xM) v10)))) (some false):Option Bool).bind λj2=>(cond j2 ((De lt xL v10 xM (sb (ad (IntKind.i64.wrap (Int.fdiv (IntKind.u64.wrap (ad xA xB)) (2^(min (1:Int).toNat IntKind.u64.bits)))) xM) v10)).bind λv11=>some v11) (some xL):Option (List γ)).bind λj3=>(cond (decide (xA<v10)) (some (decide (v10<(IntKind.i64.wrap (Int.fdiv (IntKind.u64.wrap (ad xA xB)) (2^(min (1:Int).toNat IntKind.u64.bits))))))) (some false):Option Bool).bind λj4=>(cond j4 ((B9 lt n j3 xA v10 (IntKind.i64.wrap (Int.fdiv (IntKind.u64.wrap (ad xA xB)) (2^(min (1:Int).toNat IntKind.u64.bits))))).bind λv12=>some v12) (some j3):Option (List γ)).bind λj5=>cond (decide ((IntKind.i64.wrap (Int.fdiv (IntKind.u64.wrap (ad xA xB)) (2^(min (1:Int).toNat IntKind.u64.bits))))<(sb (ad (IntKind.i64.wrap (Int.fdiv (IntKind.u64.wrap (ad xA xB)) (2^(min (1:Int).toNat IntKind.u64.bits)))) xM) v10))) (cond (decide ((sb (ad (IntKind.i64.wrap (Int.fdiv (IntKind.u64.wrap (ad xA xB)) (2^(min (1:Int).toNat IntKind.u64.bits)))) xM) v10)<xB)) ((B9 lt n j5 (IntKind.i64.wrap (Int.fdiv (IntKind.u64.wrap (ad xA xB)) (2^(min (1:Int).toNat IntKind.u64.bits)))) (sb (ad (IntKind.i64.wrap (Int.fdiv (IntKind.u64.wrap (ad xA xB)) (2^(min (1:Int).toNat IntKind.u64.bits)))) xM) v10) xB).bind λv13=>some v13) (some j5)) (some j5)))
def BP (lt:γ->γ->Bool) (xN:Int) (b:Int) (a:Int) (c:List γ):Option ((Int×Int×List γ)⊕(Int×List γ)):=cond (decide<|a<=xN) ((Be lt c b a).bind λv1=>some<|.inl (a,ad a 20,v1))<|some<|.inr (b,c)
def Cc (lt:γ->γ->Bool) (xN:Int) (a:Int) (c:Int) (b:Int) (d:List γ):Option ((Int×Int×List γ)⊕(Int×List γ)):=cond (decide<|b<=xN) ((B9 lt (List.length d+1) d c (ad c a) b).bind λv4=>some<|.inl (b,ad b<|ml 2 a,v4))<|some<|.inr (c,d)
def Cd (lt:γ->γ->Bool) (xN:Int) (a:Int) (b:List γ):Option ((Int×List γ)⊕(List γ)):=cond (decide<|a<xN) ((Ah (λs:Int×Int×List γ=>Cc lt xN a s.1 s.2.1 s.2.2) (0,ml 2 a,b)).bind λv5=>cond (decide<|(ad v5.1 a)<xN) ((B9 lt (List.length v5.2+1) v5.2 v5.1 (ad v5.1 a) xN).bind λv6=>some<|.inl (ml a 2,v6))<|some<|.inl (ml a 2,v5.2))<|some<|.inr b
def BY (lt:γ->γ->Bool) (xL:List γ) (xN:Int):Option (List γ):=(Ah (λs:Int×Int×List γ=>BP lt xN s.1 s.2.1 s.2.2) (0,20,xL)).bind λv2=>(Be lt v2.2 v2.1 xN).bind λv3=>(Ah (λs:Int×List γ=>Cd lt xN s.1 s.2) (20,v3)).bind λv7=>some v7
def SF (xX:Int):Option Int:=(cond (decide<|xX>=4294967296) (some (Int.fdiv xX<|2^(min (32:Int).toNat IntKind.u64.bits),32)) (some (xX,0)):Option (Int×Int)).bind λj1=>(cond (decide<|j1.1>=65536) (some (Int.fdiv j1.1<|2^(min (16:Int).toNat IntKind.u64.bits),ad j1.2 16)) (some (j1.1,j1.2)):Option (Int×Int)).bind λj2=>(cond (decide<|j2.1>=256) (some (Int.fdiv j2.1<|2^(min (8:Int).toNat IntKind.u64.bits),ad j2.2 8)) (some (j2.1,j2.2)):Option (Int×Int)).bind λj3=>(sx (bs [0,1,2,2,3,3,3,3,4,4,4,4,4,4,4,4,5,5,5,5,5,5,5,5,5,5,5,5,5,5,5,5,6,6,6,6,6,6,6,6,6,6,6,6,6,6,6,6,6,6,6,6,6,6,6,6,6,6,6,6,6,6,6,6,7,7,7,7,7,7,7,7,7,7,7,7,7,7,7,7,7,7,7,7,7,7,7,7,7,7,7,7,7,7,7,7,7,7,7,7,7,7,7,7,7,7,7,7,7,7,7,7,7,7,7,7,7,7,7,7,7,7,7,7,7,7,7,7,8,8,8,8,8,8,8,8,8,8,8,8,8,8,8,8,8,8,8,8,8,8,8,8,8,8,8,8,8,8,8,8,8,8,8,8,8,8,8,8,8,8,8,8,8,8,8,8,8,8,8,8,8,8,8,8,8,8,8,8,8,8,8,8,8,8,8,8,8,8,8,8,8,8,8,8,8,8,8,8,8,8,8,8,8,8,8,8,8,8,8,8,8,8,8,8,8,8,8,8,8,8,8,8,8,8,8,8,8,8,8,8,8,8,8,8,8,8,8,8,8,8,8,8,8,8,8,8])<|IntKind.u8.wrap j3.1).bind λx1=>some<|ad j3.2<|IntKind.i64.wrap x1
def Q5 (xX:Int):Option Int:=(SF xX).bind λv1=>some v1
def D1 (lt:γ->γ->Bool) (xL:List γ) (xA:Int) (xB:Int):Option (Unit⊕Unit⊕(List γ)):=cond (decide<|(sb xB xA)<=12) ((Be lt xL xA xB).bind λv1=>some<|.inr<|.inr v1) none
def CN (lt:γ->γ->Bool) (xL:List γ) (xA:Int) (xB:Int) (a:Int):Option (List γ):=(Ah (λ_:Unit=>D1 lt xL xA xB) ()).bind<|Sum.elim (λv2=>some xL) some
def KN (lt:γ->γ->Bool) (l:List γ):Option (List γ):=(Q5<|IntKind.u64.wrap<|ln l).bind λv=>CN lt l 0 (ln l) v
end
def Oi (a:γ->Int) (l:List γ):Prop:=l.Pairwise λx y=>a x<=a y
section
variable (key:γ->Int)
def Bg (l r:List γ):Prop:=∀k,r.filter (λx=>key x==k)=l.filter (λx=>key x==k)
end
theorem Bg.refl (a:γ->Int) (l:List γ):Bg a l l:=λ_=>rfl
theorem Bg.trans (d:γ->Int) (h:Bg d a b) (k:Bg d b c):Bg d a c:=λx=>(k x).trans<|h x
theorem DM (e:γ->Int) {d:List γ} (h:Bg e a b) (k:Bg e c d):Bg e (a++c) (b++d):=λx=>by rw[Co,Co,h,k]
section
variable (key:γ->Int)
theorem Bg.mem {x:γ} (h:Bg key a b):x∈b↔x∈a:=by
 have:=h<|key x;have e:x∈b.filter (λy=>key y==key x)↔x∈a.filter (λy=>key y==key x):=by rw[this]
 simpa using e
end
section
variable (key:γ->Int)
theorem Bg.nil (h:Bg key [] b):b=[]:=by
 cases b with
 |nil=>rfl
 |cons x b=>exact absurd ((h.mem (x:=x)).1 Ec)<|by simp
end
theorem Bg.swap (c:γ->Int) (h:∀x∈a,∀y∈b,c y<c x):Bg c (a++b) (b++a):=by
 intro k
 grind [Gl]
theorem OG (p:γ->Bool):∀l:List γ,l.length=(l.filter p).length+(l.filter λx=>!p x).length
 |[]=>rfl
 |x::l=>by
  have:=OG p l
  grind
section
variable (key:γ->Int)
theorem Bg.len:Bg key a b->a.length=b.length:=by
 intro h;have:∀(n:Nat) (a b:List γ),a.length<=n->Bg key a b->a.length=b.length:=by
  intro n
  induction n with
  |zero=>grind [Bg.nil]
  |succ n ih=>
   intro a b ha h
   cases a with
   |nil=>rw[h.nil]
   |cons x a=>
    have hp:(x::a).length=((x::a).filter λy=>key y==key x).length+((x::a).filter λy=>!(key y==key x)).length:=by
     exact OG _ _
    have c:b.length=(b.filter λy=>key y==key x).length+(b.filter λy=>!(key y==key x)).length:=by
     exact OG _ _
    have h1:Bg key ((x::a).filter λy=>!(key y==key x)) (b.filter λy=>!(key y==key x)):=by
     intro k;rw[NV,NV];by_cases hk:k=key x
     ·subst hk
      have z:∀l:List γ,l.filter (λy=>(key y==key x)&&!(key y==key x))=[]:=λl=>by simp
      rw[z,z]
     have z:∀l:List γ,l.filter (λy=>(key y==k)&&!(key y==key x))=l.filter (λy=>key y==k):=λl=>by grind
     rw[z,z];exact h k
    have h2:=ih _ _ (by grind) h1;rw[hp,c,h2,h<|key x]
 exact this a.length a b (A8 _) h
end
section
variable (key:γ->Int)
theorem O8:∀{a b:List γ},Oi key a->Oi key b->Bg key a b->a=b
 |[],b,_,_,h=>(h.nil key).symm
 |x::a,[],_,_,h=>by
  have:=h.len key;simp at this
 |x::a,y::b,ha,hb,h=>by
  have c:key x=key y:=by
   have h1:x∈y::b:=(h.mem key).2 Ec;have h2:y∈x::a:=(h.mem key).1 Ec;have k1:key y<=key x:=by
    rcases EN.1 h1 with rfl|h1
    ·exact Int.le_refl _
    exact(Cn.1 hb).1 x h1
   have k2:key x<=key y:=by
    rcases EN.1 h2 with rfl|h2
    ·exact Int.le_refl _
    exact(Cn.1 ha).1 y h2
   omega
  have e:=h<|key x;rw[Jf (by simp[c]),Jf<|by simp]at e
  injection e with e1 e2
  subst e1;have h':Bg key a b:=by
   intro k;have:=h k
   grind
  rw[O8 (Cn.1 ha).2 (Cn.1 hb).2 h']
end
theorem SS (P S:List γ) (x:γ):gi (P++x::S) (P.length:Nat)=some x:=by grind [A0]
theorem oJ (P S:List γ) (x y:γ):si (P++x::S) (P.length:Nat) y=P++y::S:=by
 rw[DL];simp
theorem bT (P M S:List γ) (x y:γ):Zv (P++x::(M++y::S)) (P.length:Nat) ((P.length+1+M.length:Nat):Int)=some (P++y::(M++x::S)):=by
 unfold Zv
 grind [SS,oJ]
theorem bU (P S:List γ) (x y:γ):Zv (P++x::y::S) ((P.length+1:Nat):Int) (P.length:Nat)=some (P++y::x::S):=by simp_all [Zv,gi,si];grind
theorem gC (P S:List γ) (x y:γ):Zv (P++x::y::S) (P.length:Nat) ((P.length+1:Nat):Int)=some (P++y::x::S):=by
 have:=bT P [] S x y;simpa using this
theorem KL:∀(X Y P M S:List γ),X.length=Y.length->P.length+X.length+M.length+Y.length+S.length<=1152921504606846976->
  BO lt (P++X++M++Y++S) (P.length:Nat) ((P.length+X.length+M.length:Nat):Int) (X.length:Nat)=some (P++Y++M++X++S):=by
 have d:∀(n:Nat) (X Y P M S:List γ) (a b c i:Nat),X.length=n->Y.length=n->a+i=P.length->b+i=P.length+n+M.length->c=i+n->P.length+n+M.length+n+S.length<=1152921504606846976->
   Ah (λs:Int×List γ=>Cy lt (a:Int) (b:Int) (c:Int) s.1 s.2) ((i:Int),P++X++M++Y++S)=some (P++Y++M++X++S):=by
  intro n
  induction n with
  |zero=>grind [A5,Cy]
  |succ n ih=>
   intro X Y P M S a b c i hX hY h1 h2 h3 hN
   cases X with
   |nil=>simp at hX
   |cons x X=>
   cases Y with
   |nil=>simp at hY
   |cons y Y=>
   simp only[Bk]at hX hY;have hs:Zv (P++(x::X)++M++(y::Y)++S) (ad (a:Int) (i:Int)) (ad (b:Int) (i:Int))=some (P++(y::X)++M++(x::Y)++S):=by
    have e1:ad (a:Int) (i:Int)=(P.length:Nat):=by rw[Cq (by omega)<|by omega];omega
    have e2:ad (b:Int) (i:Int)=((P.length+1+(X++M).length:Nat):Int):=by rw[Cq (by omega)<|by omega];grind
    have:=bT P (X++M) (Y++S) x y;rw[e1,e2];simpa using this
   rw[A5];simp only[Cy];rw[Ag (by omega:(i:Int)<c),As,hs,Aa,ad1<|by omega];have:=ih X Y (P++ [y]) (M++ [x]) S a b c (i+1) (by omega) (by omega) (by simp;omega) (by simp;omega) (by omega) (by simp;omega);simp only[Cw,CB,Ar,List.singleton_append]at this⊢;exact this
 intro X Y P M S e hN;unfold BO;have:=d X.length X Y P M S P.length (P.length+X.length+M.length) X.length 0 rfl e.symm (by omega) (by omega) (by omega)<|by omega
 grind
theorem eK (P A B S:List γ) (hA:A≠ []) (hB:B≠ []) (hN:P.length+A.length+B.length+S.length<=1152921504606846976):
  De lt (P++A++B++S) (P.length:Nat) ((P.length+A.length:Nat):Int) ((P.length+A.length+B.length:Nat):Int)=some (P++B++A++S):=by
 have g:∀(m:Nat) (Bd:Int×Int×List γ->Option ((Int×Int×List γ)⊕(Int×List γ))) (d:∀i j l,Bd (i,j,l)=CQ lt (m:Int) i j l) (k:Nat) (P U V S:List γ),U.length+V.length<=k->U≠ []->V≠ []->P.length+U.length=m->P.length+U.length+V.length+S.length<=1152921504606846976->
   ((
    Ah Bd ((U.length:Int),(V.length:Int),P++U++V++S)).bind λv3=>
    (BO lt v3.2 (sb (m:Int) v3.1) (m:Int) v3.1).bind λv4=>some v4)=some (P++V++U++S):=by
  intro m Bd d k
  induction k with
  |zero=>simp_all
  |succ k ih=>
   intro P U V S hk hU hV hm hN;have lU:=LX.2 hU;have lV:=LX.2 hV;rw[A5];simp only[d,CQ];have c:sb (m:Int) (U.length:Int)=(P.length:Nat):=by grind [C0]
   by_cases f:U.length=V.length
   ·have e:((U.length:Int) !=(V.length:Int))=false:=by simp[f]
    rw[e,Ae];simp only[Aa];rw[c];have:=KL (lt:=lt) U V P [] S f (by simp;omega);simp_all
   have e:((U.length:Int) !=(V.length:Int))=true:=by simp;omega
   rw[e,As];by_cases n:U.length>V.length
   ·rw[Ag (by omega:(U.length:Int)>V.length),As,c];have h:U=U.take V.length++U.drop V.length:=(BB _ _).symm;have a:(U.take V.length).length=V.length:=by simp;omega
    have b:(U.drop V.length).length=U.length-V.length:=by simp
    have:=KL (lt:=lt) (U.take V.length) V P (U.drop V.length) S a (by grind);rw[a,b,show P.length+V.length+(U.length-V.length)=m by omega]at this;have e3:P++U++V++S=P++U.take V.length++U.drop V.length++V++S:=by grind
    have e4:sb (U.length:Int) (V.length:Int)=((U.drop V.length).length:Int):=by rw[C0 (by omega) (by omega),b];omega
    have:=ih (P++V) (U.drop V.length) (U.take V.length) S (by grind) (by grind) (by grind) (by grind)<|by grind
    grind
   rw[Aq (by omega:¬(U.length:Int)>V.length),Ae,c];have a:(V.take<|V.length-U.length).length=V.length-U.length:=by simp
   have b:(V.drop<|V.length-U.length).length=U.length:=by simp;omega
   have:=KL (lt:=lt) U (V.drop<|V.length-U.length) P (V.take<|V.length-U.length) S b.symm (by grind);rw[a]at this;have e2:sb (ad (m:Int) (V.length:Int)) (U.length:Int)=((P.length+U.length+(V.length-U.length):Nat):Int):=by rw[Cq (by omega) (by omega),C0 (by omega)<|by omega];omega
   have e3:P++U++V++S=P++U++V.take (V.length-U.length)++V.drop (V.length-U.length)++S:=by simp
   rw[e2,e3,this,Aa];have e4:sb (V.length:Int) (U.length:Int)=((V.take<|V.length-U.length).length:Int):=by rw[C0 (by omega) (by omega),a];omega
   have:=ih P (V.drop<|V.length-U.length) (V.take<|V.length-U.length) (U++S) (by grind) (by grind) (by grind) (by rw[b];omega)<|by grind
   grind [BB]
 have h1:sb ((P.length+A.length:Nat):Int) (P.length:Nat)=(A.length:Int):=by grind [C0]
 have h2:sb ((P.length+A.length+B.length:Nat):Int) ((P.length+A.length:Nat):Int)=(B.length:Int):=by grind [C0]
 unfold De;rw[h1,h2];exact g (P.length+A.length) (λs=>CQ lt ((P.length+A.length:Nat):Int) s.1 s.2.1 s.2.2) (λ_ _ _=>rfl) _ P A B S (A8 _) hA hB rfl hN
def J7 (a:γ->Int) (x y:γ):Bool:=decide<|a x<a y
theorem fA (a:γ->Int) (P S:List γ) (y:γ) (B:Int×List γ->Option ((Int×List γ)⊕(List γ))) (hB:∀j l,B (j,l)=AH (J7 a) (P.length:Nat) j l):∀(n:Nat) (U V:List γ),U.length=n->Oi a U->P.length+U.length+V.length+S.length<=1152921504606846976->
  ∃U1 U2,U=U1++U2/\Ah B (((P.length+U.length:Nat):Int),P++U++y::(V++S))=some (P++U1++y::(U2++V++S))/\(∀v∈U2,a y<a v)/\∀u∈U1,a u<=a y:=by
 intro n
 induction n with
 |zero=>
  intro U V hU _ hN;have:=AN hU;simp_all [A5,AH];grind
 |succ n ih=>
  intro U V hU hs hN
  rcases List.eq_nil_or_concat U with rfl|⟨U0,z,rfl⟩
  ·simp at hU
  rw[List.concat_eq_append]at hU hs hN⊢;simp only[AG,CY]at hU hN;have hl:P.length+(U0++ [z]).length=(P++U0).length+1:=by simp;omega
  have e0:P++(U0++ [z])++y::(V++S)=(P++U0)++z::y::(V++S):=by simp
  have ej:sb (((P++U0).length+1:Nat):Int) 1=((P++U0).length:Nat):=by grind [C0]
  have g1:gi ((P++U0)++z::y::(V++S)) (((P++U0).length+1:Nat):Int)=some y:=by grind [SS]
  have g2:fW ((P++U0)++z::y::(V++S)) (((P++U0).length+1:Nat):Int) ((P++U0).length:Nat)=some (y,z):=by grind [SS,fW]
  by_cases b:a y<a z
  ·obtain⟨U1,U2,h1,h2,h3,h4⟩:=ih U0 (z::V) (by omega) (AP.1 hs).1 (by grind);refine⟨U1,U2++ [z],by rw[h1];simp,?_,?_,h4⟩
   ·rw[A5,hB];simp only[AH];rw[hl,e0,Ag (by grind:(((P++U0).length+1:Nat):Int)>(P.length:Nat)),As,ej,g2];simp only[Aa,J7];rw[Ag b,As,bU,Aa]
    grind
   grind
  refine⟨U0++ [z],[],by simp,?_,by simp,?_⟩
  ·grind [A5,AH,J7]
  intro u hu
  rcases Au.1 hu with hu|hu
  ·have:=(AP.1 hs).2.2 u hu z (by simp);omega
  grind
section
variable (key:γ->Int)
theorem FE (P X S:List γ) (hN:P.length+X.length+S.length<=1152921504606846976):
  ∃X',Be (J7 key) (P++X++S) (P.length:Nat) ((P.length+X.length:Nat):Int)=some (P++X'++S)/\Oi key X'/\Bg key X X':=by
 have main:∀(b:Nat) (B:Int×List γ->Option ((Int×List γ)⊕(List γ))),(∀i l,B (i,l)=AD (J7 key) (P.length:Nat) (b:Int) i l)->∀(n:Nat) (U V:List γ),V.length=n->P.length+U.length+V.length=b->Oi key U->b+S.length<=1152921504606846976->
   ∃X',Ah B (((P.length+U.length:Nat):Int),P++U++V++S)=some (P++X'++S)/\Oi key X'/\Bg key (U++V) X':=by
  intro b B hB n
  induction n with
  |zero=>grind [Bg.refl,A5,AD]
  |succ n ih=>
   intro U V hV hb hs hN
   cases V with
   |nil=>simp at hV
   |cons y V=>
    simp only[Bk]at hV hb;obtain⟨U1,U2,h1,h2,h3,h4⟩:=fA key P (V++S) y (λs=>AH (J7 key) (P.length:Nat) s.1 s.2) (λ_ _=>rfl) U.length U [] rfl hs (by grind);have hs':Oi key (U1++y::U2):=by
     rw[h1]at hs;obtain⟨q1,q2,q3⟩:=AP.1 hs;refine AP.2 ⟨q1,Cn.2 ⟨λv hv=>Int.le_of_lt<|h3 v hv,q2⟩,λu hu v hv=>?_⟩
     grind
    have hk:Bg key (U++ [y]) (U1++y::U2):=by
     rw[h1,Cw];have:=Bg.swap key (a:=U2) (b:=[y]) (λx hx z hz=>by simp at hz;grind)
     grind [DM,Bg.refl]
    have c:(U1++y::U2).length=U.length+1:=by grind
    obtain⟨X',r1,r2,r3⟩:=ih (U1++y::U2) V (by omega) (by rw[c];omega) hs' hN;refine⟨X',?_,r2,?_⟩
    ·rw[A5,hB];simp only[AD];rw[Ag (by omega:((P.length+U.length:Nat):Int)<(b:Int)),As];have e:P++U++y::V++S=P++U++y::([]++(V++S)):=by simp
     rw[e,h2,Aa,ad1<|by omega];simp only;rw[show P.length+U.length+1=P.length+(U1++y::U2).length by rw[c];omega]
     grind
    refine Bg.trans key ?_ r3
    grind [DM,Bg.refl]
 unfold Be;rw[ad1<|by omega]
 cases X with
 |nil=>
  refine⟨[],?_,List.Pairwise.nil,Bg.refl key _⟩
  grind [A5,AD]
 |cons x X=>
  obtain⟨X',h1,h2,h3⟩:=main (P.length+(x::X).length) (λs=>AD (J7 key) (P.length:Nat) ((P.length+(x::X).length:Nat):Int) s.1 s.2) (λ_ _=>rfl) X.length [x] X rfl (by simp;omega) (List.pairwise_singleton _ _)<|by omega
  grind
end
def TW (i j:Int):Int:=IntKind.i64.wrap<|Int.fdiv (IntKind.u64.wrap<|ad i j)<|2^(min (1:Int).toNat IntKind.u64.bits)
theorem Wd (i j:Nat) (h:i+j<=4611686018427387904):TW (i:Int) (j:Int)=(((i+j)/2:Nat):Int):=by
 unfold TW;rw[Cq (by omega)<|by omega];have e1:IntKind.u64.wrap ((i:Int)+(j:Int))=((i+j:Nat):Int):=by
  have:IntKind.u64.wrap ((i:Int)+(j:Int))=((i:Int)+(j:Int)) %18446744073709551616:=by rfl
  grind
 grind [T8,IntKind.bits]
theorem WB {B:Int×Int->Option ((Int×Int)⊕Int)} (p:Nat->Bool) (lo hi:Nat) (h1:∀i j:Nat,lo<=i->i<j->j<=hi->B ((i:Int),(j:Int))=some (.inl (cond (p ((i+j)/2)) ((((i+j)/2+1:Nat):Int),(j:Int)) ((i:Int),(((i+j)/2:Nat):Int))))) (h2:∀i:Nat,B ((i:Int),(i:Int))=some (.inr (i:Int))):
  ∀(n i j:Nat),j-i<=n->lo<=i->i<=j->j<=hi->(lo<i->p (i-1)=true)->(j<hi->p j=false)->∃r:Nat,Ah B ((i:Int),(j:Int))=some (r:Int)/\lo<=r/\r<=hi/\(lo<r->p (r-1)=true)/\(r<hi->p r=false):=by
 intro n
 induction n with
 |zero=>
  intro i j hn hl a hh k1 k2;have:i=j:=by omega
  simp_all [A5];grind
 |succ n ih=>
  intro i j hn hl a hh k1 k2;by_cases he:i=j
  ·subst he;exact⟨i,by rw[A5,h2],hl,hh,k1,k2⟩
  rw[A5,h1 i j hl (by omega) hh]
  cases hp:p ((i+j)/2)with
  |true=>
   exact ih ((i+j)/2+1) j (by omega) (by omega) (by omega) hh (λ_=>by grind) k2
  |false=>
   exact ih i ((i+j)/2) (by omega) hl (by omega) (by omega) k1 λ_=>hp
theorem W3 (P X T:List γ) (k:Nat) (hk:k<X.length):gi (P++X++T) ((P.length+k:Nat):Int)=some X[k]:=by
 rw[A0,Cw,Bj (by omega),Nat.add_sub_cancel_left,CS hk,Ab hk]
theorem Px (a:γ->Int) {r:Nat} (h:Oi a X) (h0:0<r) (hr:r<=X.length):∀u∈X.take r,a u<=a (X[r-1]'(by omega)):=by
 intro u hu;obtain⟨i,hi,e⟩:=AM hu;rw[List.getElem_take]at e;simp only[List.length_take]at hi;rw[<-e];by_cases b:i=r-1
 ·grind
 exact List.pairwise_iff_getElem.1 h i (r-1) (by omega) (by omega)<|by omega
theorem Py (a:γ->Int) {r:Nat} (h:Oi a X) (hr:r<X.length):∀v∈X.drop r,a X[r]<=a v:=by
 intro v hv;obtain⟨i,hi,e⟩:=AM hv;rw[List.getElem_drop]at e;simp only[List.length_drop]at hi;rw[<-e];by_cases b:i=0
 ·subst b;simp
 exact List.pairwise_iff_getElem.1 h r (r+i) (by omega) (by omega)<|by omega
theorem gT (a:γ->Int) (S:List γ) (x:γ) (v2:Nat) (B:Int×List γ->Option ((Int×List γ)⊕(List γ))) (hB:∀k l,B (k,l)=Cg (J7 a) (v2:Int) k l):∀(Y P:List γ),P.length+Y.length+1=v2->v2<=1152921504606846976->
  Ah B ((P.length:Int),P++x::(Y++S))=some (P++Y++x::S):=by
 intro Y
 induction Y with
 |nil=>grind [A5,C0,Cg]
 |cons y Y ih=>
  intro P h hN;simp only[Bk]at h;rw[A5,hB];simp only[Cg];rw[C0 (by omega) (by omega),Ag (by omega:(P.length:Int)<(v2:Int)-1),As,ad1 (by omega),CB,gC,Aa];simp only;have:=ih (P++ [y]) (by simp;omega) hN;simp_all
theorem lJ (a:γ->Int) (P S:List γ) (y:γ) (B:Int×List γ->Option ((Int×List γ)⊕(List γ))) (hB:∀k l,B (k,l)=Cf (J7 a) (P.length:Int) k l):∀(n:Nat) (X S:List γ),X.length=n->P.length+X.length<=1152921504606846976->
  Ah B (((P.length+X.length:Nat):Int),P++X++y::S)=some (P++y::(X++S)):=by
 intro n
 induction n with
 |zero=>grind [A5,Cf]
 |succ n ih=>
  intro X S hX hN
  rcases List.eq_nil_or_concat X with rfl|⟨X0,z,rfl⟩
  ·simp at hX
  rw[List.concat_eq_append]at hX hN⊢;simp only[AG,CY]at hX hN;have hl:P.length+(X0++ [z]).length=(P++X0).length+1:=by simp;omega
  have e0:P++(X0++ [z])++y::S=(P++X0)++z::y::S:=by simp
  have ej:sb (((P++X0).length+1:Nat):Int) 1=((P++X0).length:Nat):=by grind [C0]
  rw[A5,hB];simp only[Cf];rw[hl,e0,Ag (by grind:(((P++X0).length+1:Nat):Int)>(P.length:Int)),As,ej,bU,Aa];simp_all;grind
section
variable (key:γ->Int)
set_option maxHeartbeats 1000000 in
theorem QV:∀(n:Nat) (P X Y S:List γ),X≠ []->Y≠ []->Oi key X->Oi key Y->X.length+Y.length<=n->P.length+X.length+Y.length+S.length<=1152921504606846976->
  ∃Z,B9 (J7 key) n (P++X++Y++S) (P.length:Nat) ((P.length+X.length:Nat):Int) ((P.length+X.length+Y.length:Nat):Int)=some (P++Z++S)/\Oi key Z/\Bg key (X++Y) Z:=by
 intro n
 induction n with
 |zero=>simp_all
 |succ n ih=>
  intro P X Y S hX hY sX sY hn hN;have lX:=LX.2 hX;have lY:=LX.2 hY;have eXA:sb ((P.length+X.length:Nat):Int) (P.length:Nat)=(X.length:Int):=by grind [C0]
  have eYB:sb ((P.length+X.length+Y.length:Nat):Int) ((P.length+X.length:Nat):Int)=(Y.length:Int):=by grind [C0]
  rw[B9,eXA,eYB];by_cases h5:X.length=1
  ·obtain⟨x,rfl⟩:=List.length_eq_one_iff.1 h5;have:(((([x]:List γ).length:Nat):Int)==1)=true:=rfl;simp only[CY]at hn hN⊢;obtain⟨r,r1,r2,r3,r4,r5⟩:=WB (B:=λs:Int×Int=>C5 (J7 key) (P++ [x]++Y++S) (P.length:Nat) s.1 s.2) (λc=>match Y[c-(P.length+1)]? with|some y=>decide (key y<key x)|none=>false) (P.length+1) (P.length+1+Y.length)
    (λi j hi o hj=>by
     simp only[C5];rw[Ag (by omega:(i:Int)<j),As];have hm:TW (i:Int) (j:Int)=(((i+j)/2:Nat):Int):=Wd i j (by omega);unfold TW at hm;rw[hm];have hk:(i+j)/2-(P.length+1)<Y.length:=by omega
     have g1:gi (P++ [x]++Y++S) (((i+j)/2:Nat):Int)=some Y[(i+j)/2-(P.length+1)]:=by
      have:=W3 (P++ [x]) Y S ((i+j)/2-(P.length+1)) hk
      grind
     grind [SS,ad1,fW,J7])
    (λi=>by grind [C5])
    (Y.length) (P.length+1) (P.length+1+Y.length) (by omega) (A8 _) (by omega) (A8 _) (λh=>absurd h<|by omega) (λh=>absurd h<|by omega)
   rw[r1,Aa];have k:Y.take (r-(P.length+1))++Y.drop (r-(P.length+1))=Y:=BB _ _;have a8:(Y.take<|r-(P.length+1)).length=r-(P.length+1):=by simp;omega
   have a9:∀y∈Y.take (r-(P.length+1)),key y<key x:=by
    intro y hy;have h0:0<r-(P.length+1):=by grind
    have:=Px key sY h0 (by omega) y hy;have hp:=r4 (by omega);rw[show r-1-(P.length+1)=r-(P.length+1)-1 by omega,Ab<|by omega]at hp
    grind
   have h6:∀y∈Y.drop (r-(P.length+1)),key x<=key y:=by
    intro y hy;have h0:r-(P.length+1)<Y.length:=by grind
    grind [Py]
   have hm:=gT key (Y.drop (r-(P.length+1))++S) x r (λs=>Cg (J7 key) (r:Int) s.1 s.2) (λ_ _=>rfl) (Y.take<|r-(P.length+1)) P (by omega) (by omega);have e:P++ [x]++Y++S=P++x::(Y.take (r-(P.length+1))++(Y.drop (r-(P.length+1))++S)):=by grind
   rw[e,hm,Aa];refine⟨Y.take (r-(P.length+1))++x::Y.drop (r-(P.length+1)),by simp,?_,?_⟩
   ·have sY':=sY;rw[<-k]at sY';obtain⟨q1,q2,q3⟩:=AP.1 sY';refine AP.2 ⟨q1,Cn.2 ⟨h6,q2⟩,λu hu v hv=>?_⟩
    grind
   have:=Bg.swap key (a:=[x]) (b:=Y.take<|r-(P.length+1)) (λu hu y hy=>by simp at hu;grind);have:=DM key this<|Bg.refl key<|Y.drop<|r-(P.length+1)
   grind
  have:((X.length:Int)==1)=false:=by grind
  rw[this,Ae];by_cases k:Y.length=1
  ·obtain⟨y,rfl⟩:=List.length_eq_one_iff.1 k;have:(((([y]:List γ).length:Nat):Int)==1)=true:=rfl;have gY:gi (P++X++ [y]++S) ((P.length+X.length:Nat):Int)=some y:=by grind [SS]
   obtain⟨r,r1,r2,r3,r4,r5⟩:=WB (B:=λs:Int×Int=>C4 (J7 key) (P++X++ [y]++S) ((P.length+X.length:Nat):Int) s.1 s.2) (λc=>match X[c-P.length]? with|some x=>!decide (key y<key x)|none=>false) P.length (P.length+X.length)
    (λi j hi o hj=>by
     simp only[C4];rw[Ag (by omega:(i:Int)<j),As];have hm:TW (i:Int) (j:Int)=(((i+j)/2:Nat):Int):=Wd i j (by omega);unfold TW at hm;rw[hm];have hk:(i+j)/2-P.length<X.length:=by omega
     have g1:gi (P++X++ [y]++S) (((i+j)/2:Nat):Int)=some X[(i+j)/2-P.length]:=by
      have:=W3 P X ([y]++S) ((i+j)/2-P.length) hk
      grind
     grind [ad1,fW,J7])
    (λi=>by grind [C4])
    (X.length) P.length (P.length+X.length) (by omega) (A8 _) (by omega) (A8 _) (λh=>absurd h<|by omega) (λh=>absurd h<|by omega)
   rw[r1,Aa];have hX1':X.take (r-P.length)++X.drop (r-P.length)=X:=BB _ _;have h7:(X.drop<|r-P.length).length=X.length-(r-P.length):=by simp
   have b0:∀x∈X.take (r-P.length),key x<=key y:=by
    intro x hx;have h0:0<r-P.length:=by grind
    have:=Px key sX h0 (by omega) x hx;have hp:=r4 (by omega);rw[show r-1-P.length=r-P.length-1 by omega,Ab<|by omega]at hp
    grind
   have p:∀x∈X.drop (r-P.length),key y<key x:=by
    intro x hx;have h0:r-P.length<X.length:=by grind
    grind [Py]
   have q:(P++X.take (r-P.length)).length=r:=by grind
   have hm:=lJ key (P++X.take (r-P.length)) S y (λs=>Cf (J7 key) (r:Int) s.1 s.2) (λ_ _=>by rw[q]) (X.drop<|r-P.length).length (X.drop<|r-P.length) S rfl (by grind);have e:P++X++ [y]++S=P++X.take (r-P.length)++X.drop (r-P.length)++y::S:=by simp
   rw[q,h7,show r+(X.length-(r-P.length))=P.length+X.length by omega]at hm;rw[e,hm,Aa];refine⟨X.take (r-P.length)++y::X.drop (r-P.length),by simp,?_,?_⟩
   ·have sX':=sX;rw[<-hX1']at sX';obtain⟨q1,q2,q3⟩:=AP.1 sX';refine AP.2 ⟨q1,Cn.2 ⟨λv hv=>Int.le_of_lt<|p v hv,q2⟩,λu hu v hv=>?_⟩
    grind
   have:=Bg.swap key (a:=X.drop<|r-P.length) (b:=[y]) (λu hu v hv=>by simp at hv;grind)
   grind [DM,Bg.refl]
  have:((Y.length:Int)==1)=false:=by grind
  rw[this,Ae];have f:TW (P.length:Nat) ((P.length+X.length+Y.length:Nat):Int)=(((P.length+(P.length+X.length+Y.length))/2:Nat):Int):=Wd _ _ (by omega);unfold TW at f;rw[f];obtain⟨mid,t⟩:∃mid,mid=(P.length+(P.length+X.length+Y.length))/2:=⟨_,rfl⟩;rw[<-t];have en:ad (mid:Int) ((P.length+X.length:Nat):Int)=((mid+(P.length+X.length):Nat):Int):=by grind [Cq]
  rw[en];obtain⟨lo,hi,h8,b1,b2,l,h4⟩:∃lo hi:Nat,((cond (decide<|((P.length+X.length:Nat):Int)>(mid:Int)) (some (sb ((mid+(P.length+X.length):Nat):Int) ((P.length+X.length+Y.length:Nat):Int),(mid:Int))) (some (((P.length:Nat):Int),((P.length+X.length:Nat):Int))):Option (Int×Int))=some ((lo:Int),(hi:Int)))/\
    P.length<=lo/\hi<=P.length+X.length/\lo<=hi/\(P.length+X.length>mid/\lo=mid+(P.length+X.length)-(P.length+X.length+Y.length)/\hi=mid\/P.length+X.length<=mid/\lo=P.length/\hi=P.length+X.length):=by
   by_cases p:P.length+X.length>mid
   ·rw[Ag (by omega),As,C0 (by omega)<|by omega]
    grind
   exact⟨P.length,P.length+X.length,by grind,by omega,by omega,by omega,.inr ⟨by omega,rfl,rfl⟩⟩
  rw[h8,Aa];simp only;have h9:sb ((mid+(P.length+X.length):Nat):Int) 1=((mid+(P.length+X.length)-1:Nat):Int):=by grind [C0]
  obtain⟨r,r1,r2,r3,r4,r5⟩:=WB (B:=λs:Int×Int=>C3 (J7 key) (P++X++Y++S) (P.length:Nat) ((P.length+X.length:Nat):Int) ((P.length+X.length+Y.length:Nat):Int) s.1 s.2)
   (λc=>match Y[mid+(P.length+X.length)-1-c-(P.length+X.length)]?,X[c-P.length]? with|some y,some x=>!decide (key y<key x)|_,_=>false) lo hi
   (λi j hi' o hj=>by
    simp only[C3];rw[Ag (by omega:(i:Int)<j),As,f,<-t,en,h9];have hm:TW (i:Int) (j:Int)=(((i+j)/2:Nat):Int):=Wd i j (by omega);unfold TW at hm;rw[hm];have hk:(i+j)/2-P.length<X.length:=by omega
    have d:mid+(P.length+X.length)-1-(i+j)/2-(P.length+X.length)<Y.length:=by omega
    have g1:gi (P++X++Y++S) (((i+j)/2:Nat):Int)=some X[(i+j)/2-P.length]:=by
     have:=W3 P X (Y++S) ((i+j)/2-P.length) hk
     grind
    have es:sb ((mid+(P.length+X.length)-1:Nat):Int) (((i+j)/2:Nat):Int)=(((P++X).length+(mid+(P.length+X.length)-1-(i+j)/2-(P.length+X.length)):Nat):Int):=by grind [C0]
    have g2:gi (P++X++Y++S) (((P++X).length+(mid+(P.length+X.length)-1-(i+j)/2-(P.length+X.length)):Nat):Int)=some Y[mid+(P.length+X.length)-1-(i+j)/2-(P.length+X.length)]:=W3 (P++X) Y S _ d;unfold fW;rw[es,g2,Aa,g1,Aa,Aa,Ab hk,Ab d]
    grind [ad1,J7])
   (λi=>by grind [C3])
   (hi-lo) lo hi (A8 _) (A8 _) l (A8 _) (λh=>absurd h<|by omega) (λh=>absurd h<|by omega)
  rw[r1,Aa];obtain⟨fin,a7⟩:∃fin,fin=mid+(P.length+X.length)-r:=⟨_,rfl⟩;have w:sb ((mid+(P.length+X.length):Nat):Int) (r:Int)=(fin:Int):=by rw[C0 (by omega)<|by omega];omega
  simp only[w];have b3:P.length+X.length<=fin/\fin<=P.length+X.length+Y.length:=by omega
  obtain⟨A1,A2,hA⟩:∃A1 A2,A1=X.take (r-P.length)/\A2=X.drop (r-P.length):=⟨_,_,rfl,rfl⟩;obtain⟨B1,B2,hB⟩:∃B1 B2,B1=Y.take (fin-(P.length+X.length))/\B2=Y.drop (fin-(P.length+X.length)):=⟨_,_,rfl,rfl⟩;have a0:A1++A2=X:=by rw[hA.1,hA.2];simp
  have a1:B1++B2=Y:=by rw[hB.1,hB.2];simp
  have lA1:A1.length=r-P.length:=by rw[hA.1];simp;omega
  have lA2:A2.length=P.length+X.length-r:=by grind
  have lB1:B1.length=fin-(P.length+X.length):=by rw[hB.1];simp;omega
  have lB2:B2.length=P.length+X.length+Y.length-fin:=by grind
  have sX':=sX;rw[<-a0]at sX';obtain⟨sA1,sA2,sA⟩:=AP.1 sX';have sY':=sY;rw[<-a1]at sY';obtain⟨sB1,sB2,sB⟩:=AP.1 sY';have b4:∀u∈A1,∀v∈B2,key u<=key v:=by
   intro u hu v hv;have l1:=JB hu;have l2:=JB hv;have hp:=r4 (by omega);have d:mid+(P.length+X.length)-1-(r-1)-(P.length+X.length)<Y.length:=by omega
   have g:r-1-P.length<X.length:=by omega
   rw[Ab d,Ab g]at hp;simp only[EG,decide_eq_false_iff_not]at hp;rw[hA.1]at hu;have k1:=Px key sX (r:=r-P.length) (by omega) (by omega) u hu;rw[hB.2]at hv;have k2:=Py key sY (r:=fin-(P.length+X.length)) (by omega) v hv;have i1:X[r-P.length-1]'(by omega)=X[r-1-P.length]'g:=by congr 1;omega
   have i2:Y[fin-(P.length+X.length)]'(by omega)=Y[mid+(P.length+X.length)-1-(r-1)-(P.length+X.length)]'d:=by congr 1;omega
   grind
  have a2:∀x∈A2,∀y∈B1,key y<key x:=by
   intro x hx y hy;have l1:=JB hx;have l2:=JB hy;have hp:=r5 (by omega);have d:mid+(P.length+X.length)-1-r-(P.length+X.length)<Y.length:=by omega
   have g:r-P.length<X.length:=by omega
   rw[Ab d,Ab g]at hp;simp only[Bool.not_eq_false',B5]at hp;rw[hA.2]at hx;have k1:=Py key sX g x hx;rw[hB.1]at hy;have k2:=Px key sY (r:=fin-(P.length+X.length)) (by omega) (by omega) y hy;have i2:Y[fin-(P.length+X.length)-1]'(by omega)=Y[mid+(P.length+X.length)-1-r-(P.length+X.length)]'d:=by congr 1;omega
   grind
  have z:(((bif decide ((r:Int)<((P.length+X.length:Nat):Int))then some (decide<|((P.length+X.length:Nat):Int)<(fin:Int))else some false:Option Bool).bind λj2=>
    (bif j2 then((De (J7 key) (P++X++Y++S) (r:Int) ((P.length+X.length:Nat):Int) (fin:Int)).bind λv11=>some v11)else some (P++X++Y++S):Option (List γ))))=some (P++A1++B1++A2++B2++S):=by
   have e:P++X++Y++S=(P++A1)++A2++B1++(B2++S):=by grind
   by_cases c1:r<P.length+X.length
   ·rw[Ag (by omega:(r:Int)<((P.length+X.length:Nat):Int)),As,Aa];by_cases c2:P.length+X.length<fin
    ·rw[Ag (by omega:((P.length+X.length:Nat):Int)<(fin:Int)),As];have hr:=eK (lt:=J7 key) (P++A1) A2 B1 (B2++S) (by grind) (by grind) (by grind);rw[show(P++A1).length=r by rw[AG];omega]at hr
     grind
    rw[Aq (by omega:¬((P.length+X.length:Nat):Int)<(fin:Int)),Ae,e];have:B1=[]:=AN (by omega);rw[this];simp
   grind
  rw[<-Option.bind_assoc,z,Aa]
  have h1:∃Z1,(((bif decide (((P.length:Nat):Int)<(r:Int))then some (decide<|(r:Int)<(mid:Int))else some false:Option Bool).bind λj4=>
    (bif j4 then((B9 (J7 key) n (P++A1++B1++A2++B2++S) (P.length:Nat) (r:Int) (mid:Int)).bind λv12=>some v12)else some (P++A1++B1++A2++B2++S):Option (List γ))))=some (P++Z1++A2++B2++S)/\Oi key Z1/\Bg key (A1++B1) Z1:=by
   by_cases c1:P.length<r/\r<mid
   ·rw[Ag (by omega:((P.length:Nat):Int)<(r:Int)),As,Aa,Ag (by omega:(r:Int)<(mid:Int)),As];obtain⟨Z,z1,z2,z3⟩:=ih P A1 B1 (A2++B2++S) (by grind) (by intro e;rw[e]at lB1;simp at lB1;omega) sA1 sB1 (by omega) (by grind);rw[show P.length+A1.length=r by omega,show r+B1.length=mid by omega]at z1;refine⟨Z,?_,z2,z3⟩
    grind
   refine⟨A1++B1,?_,?_,Bg.refl key _⟩
   ·have:((bif decide (((P.length:Nat):Int)<(r:Int))then some (decide<|(r:Int)<(mid:Int))else some false:Option Bool))=some false:=by
     by_cases c:P.length<r
     ·grind
     grind
    grind
   by_cases c:P.length<r
   ·have:B1=[]:=AN (by omega);rw[this,A6];exact sA1
   have:A1=[]:=AN (by omega);rw[this,Ar];exact sB1
  obtain⟨Z1,a3,a4,m⟩:=h1;rw[<-Option.bind_assoc,a3,Aa];have lZ1:Z1.length=A1.length+B1.length:=by have:=m.len key;grind
  have h2:∃Z2,(bif decide ((mid:Int)<(fin:Int))then(bif decide ((fin:Int)<((P.length+X.length+Y.length:Nat):Int))then((B9 (J7 key) n (P++Z1++A2++B2++S) (mid:Int) (fin:Int) ((P.length+X.length+Y.length:Nat):Int)).bind λv13=>some v13)else some<|P++Z1++A2++B2++S)else some (P++Z1++A2++B2++S):Option (List γ))=some (P++Z1++Z2++S)/\Oi key Z2/\Bg key (A2++B2) Z2:=by
   by_cases c1:mid<fin
   ·rw[Ag (by omega:(mid:Int)<(fin:Int)),As];by_cases c2:fin<P.length+X.length+Y.length
    ·rw[Ag (by omega:(fin:Int)<((P.length+X.length+Y.length:Nat):Int)),As];obtain⟨Z,z1,z2,z3⟩:=ih (P++Z1) A2 B2 S (by intro e;rw[e]at lA2;simp at lA2;omega) (by grind) sA2 sB2 (by omega) (by grind);rw[show(P++Z1).length=mid by rw[AG];omega,show mid+A2.length=fin by omega,show fin+B2.length=P.length+X.length+Y.length by omega]at z1
     grind
    rw[Aq (by omega:¬(fin:Int)<((P.length+X.length+Y.length:Nat):Int)),Ae];have:B2=[]:=AN (by omega);refine⟨A2++B2,by simp,?_,Bg.refl key _⟩;rw[this,A6];exact sA2
   rw[Aq (by omega:¬(mid:Int)<(fin:Int)),Ae];have:A2=[]:=AN (by omega);refine⟨A2++B2,by simp,?_,Bg.refl key _⟩;rw[this,Ar];exact sB2
  obtain⟨Z2,a5,a6,h3⟩:=h2;rw[a5];refine⟨Z1++Z2,by simp,AP.2 ⟨a4,a6,λu hu v hv=>?_⟩,?_⟩
  ·have hu':=(m.mem key).1 hu;have hv':=(h3.mem key).1 hv
   rcases Au.1 hu' with hu'|hu'<;>rcases Au.1 hv' with hv'|hv'
   ·grind
   ·grind
   ·grind
   grind
  have e1:=DM key (Bg.refl key A1)<|DM key (Bg.swap key a2)<|Bg.refl key B2;have e2:=DM key m h3
  grind [Bg.trans]
end
section
variable {γ:Type} (key:γ->Int)
inductive Blocks (bs:Nat):List γ->Prop
 |last {l:List γ} (h:l.length<=bs) (hs:Oi key l):Blocks bs l
 |cons {X l:List γ} (h:X.length=bs) (hs:Oi key X) (hl:Blocks bs l):Blocks bs (X++l)
end
theorem WD (c:γ->Int) (N:Nat) (hN:N<=1073741824) (B:Int×Int×List γ->Option ((Int×Int×List γ)⊕(Int×List γ))) (hB:∀a b l,B (a,b,l)=BP (J7 c) (N:Int) a b l):
  ∀(k:Nat) (P T:List γ),T.length<=k->P.length+T.length=N->
   ∃Q R,Ah B ((P.length:Int),((P.length+20:Nat):Int),P++T)=some (((P.length+Q.length:Nat):Int),P++Q++R)/\Bg c T (Q++R)/\R.length<20/\(∀R',Oi c R'->R'.length=R.length->Blocks c 20 (Q++R')):=by
 intro k
 induction k with
 |zero=>
  intro P T hT hP;have:=AN<|Nat.le_zero.1 hT;subst this;refine⟨[],[],?_,Bg.refl c _,by simp,λR' h h2=>?_⟩
  ·grind [A5,BP]
  rw[Ar];exact .last (by omega) h
 |succ k ih=>
  intro P T hT hP;by_cases h20:T.length<20
  ·refine⟨[],T,?_,by exact Bg.refl c _,h20,λR' h h2=>by rw[Ar];exact .last (by omega) h⟩;rw[A5,hB];simp_all [BP];grind
  have d:T=T.take 20++T.drop 20:=(BB _ _).symm;have l1:(T.take 20).length=20:=by simp;omega
  have l2:(T.drop 20).length=T.length-20:=by simp
  obtain⟨X',x1,x2,x3⟩:=FE c P (T.take 20) (T.drop 20) (by omega);have lX:X'.length=20:=by have:=x3.len c;omega
  rw[l1]at x1;obtain⟨Q,R,q1,q2,q3,q4⟩:=ih (P++X') (T.drop 20) (by omega) (by rw[AG];omega);refine⟨X'++Q,R,?_,?_,q3,λR' h h2=>?_⟩
  ·rw[A5,hB];simp only[BP];rw[Ag (by omega:((P.length+20:Nat):Int)<=(N:Int)),As];have e:P++T=P++T.take 20++T.drop 20:=by grind
   rw[e,x1,Aa];simp only;have e2:ad ((P.length+20:Nat):Int) 20=(((P++X').length+20:Nat):Int):=by rw[Cq (by omega) (by omega),AG];omega
   rw[e2,show P.length+20=(P++X').length by rw[AG];omega,q1];simp[Nat.add_assoc]
  ·grind [DM]
  rw[Cw];exact .cons lX x2<|q4 R' h h2
theorem WC (c:γ->Int) (N bs:Nat) (hN:N<=1073741824) (e:0<bs) (f:bs<N) (B:Int×Int×List γ->Option ((Int×Int×List γ)⊕(Int×List γ))) (hB:∀a b l,B (a,b,l)=Cc (J7 c) (N:Int) (bs:Int) a b l):
  ∀(k:Nat) (P T:List γ),T.length<=k->P.length+T.length=N->Blocks c bs T->
   ∃Q R,Ah B ((P.length:Int),((P.length+2*bs:Nat):Int),P++T)=some (((P.length+Q.length:Nat):Int),P++Q++R)/\Bg c T (Q++R)/\R.length<2*bs/\Blocks c bs R/\(∀R',Oi c R'->R'.length=R.length->Blocks c (2*bs) (Q++R')):=by
 intro k
 induction k with
 |zero=>
  intro P T hT hP hb;have:=AN<|Nat.le_zero.1 hT;subst this;refine⟨[],[],?_,Bg.refl c _,by simp;omega,hb,λR' h h2=>?_⟩
  ·grind [A5,Cc]
  rw[Ar];exact .last (by omega) h
 |succ k ih=>
  intro P T hT hP hb;by_cases h2:T.length<2*bs
  ·refine⟨[],T,?_,by exact Bg.refl c _,h2,hb,λR' h h3=>by rw[Ar];exact .last (by omega) h⟩;rw[A5,hB];simp only[Cc]
   grind
  
  obtain⟨X,Y,T2,rfl,lX,lY,sX,sY,d⟩:∃X Y T2,T=X++Y++T2/\X.length=bs/\Y.length=bs/\Oi c X/\Oi c Y/\Blocks c bs T2:=by
   cases hb with
   |last h hs=>omega
   | @cons X l h hs hl=>
    cases hl with
    |last h' hs'=>
     simp only[AG]at h2;exact⟨X,l,[],by simp,h,by omega,hs,hs',.last (by simp) List.Pairwise.nil⟩
    | @cons Y l' h' hs' hl'=>grind
  simp only[AG]at hP hT h2;obtain⟨Z,z1,z2,z3⟩:=QV c ((P++(X++Y++T2)).length+1) P X Y T2 (by grind) (by grind) sX sY (by grind [AG]) (by omega);have lZ:Z.length=2*bs:=by have:=z3.len c;grind
  obtain⟨Q,R,q1,q2,q3,q4,q5⟩:=ih (P++Z) T2 (by omega) (by rw[AG];omega) d;refine⟨Z++Q,R,?_,?_,q3,q4,λR' h h3=>?_⟩
  ·rw[A5,hB];simp only[Cc];rw[Ag (by omega:((P.length+2*bs:Nat):Int)<=(N:Int)),As];have e1:ad (P.length:Int) (bs:Int)=((P.length+X.length:Nat):Int):=by rw[Cq (by omega)<|by omega];omega
   have e2:((P.length+2*bs:Nat):Int)=((P.length+X.length+Y.length:Nat):Int):=by omega
   have e3:ad ((P.length+2*bs:Nat):Int) (ml 2 (bs:Int))=(((P++Z).length+2*bs:Nat):Int):=by
    rw[UV (by omega) (by omega),Cq (by omega) (by omega),AG];omega
   have e4:P++(X++Y++T2)=P++X++Y++T2:=by simp
   rw[e3,e1,e2,e4];rw[e4]at z1;rw[z1,Aa];simp only;rw[show P.length+X.length+Y.length=(P++Z).length by rw[AG];omega,q1];simp[Nat.add_assoc]
  ·have:=DM c z3 q2
   grind
  rw[Cw];exact .cons lZ z2<|q5 R' h h3
section
variable (key:γ->Int)
theorem UC (l:List γ) (hN:l.length<=1073741824):∃r,BY (J7 key) l (ln l)=some r/\Oi key r/\Bg key l r:=by
 have rounds:∀(B:Int×List γ->Option ((Int×List γ)⊕(List γ))),(∀b l',B (b,l')=Cd (J7 key) (l.length:Int) b l')->∀(k bs:Nat) (T:List γ),l.length<=bs+k->0<bs->bs<=2147483648->T.length=l.length->Blocks key bs T->∃r,Ah B ((bs:Int),T)=some r/\Oi key r/\Bg key T r:=by
  intro B hB k
  induction k with
  |zero=>
   intro bs T hk c d hT hb;rw[A5,hB];simp only[Cd];rw[Aq (by omega:¬(bs:Int)<(l.length:Int)),Ae];refine⟨T,rfl,?_,Bg.refl key _⟩
   cases hb with
   |last h hs=>exact hs
   | @cons X l' h hs hl=>
    simp only[AG]at hT;have:l'=[]:=AN<|by omega
    grind
  |succ k ih=>
   intro bs T hk c d hT hb;by_cases e:bs<l.length
   ·rw[A5,hB];simp only[Cd];rw[Ag (by omega:(bs:Int)<(l.length:Int)),As];obtain⟨Q,R,q1,q2,q3,q4,q5⟩:=WC key l.length bs hN c e (λs=>Cc (J7 key) (l.length:Int) (bs:Int) s.1 s.2.1 s.2.2) (λ_ _ _=>rfl) T.length [] T (A8 _) (by simp[hT]) hb;simp only[RO,Ar,HK]at q1;have a:Q.length+R.length=l.length:=by have:=q2.len key;grind
    have e2:ml 2 (bs:Int)=((2*bs:Nat):Int):=by grind [UV]
    have e2':ml (bs:Int) 2=((2*bs:Nat):Int):=by grind [UV]
    rw[e2,e2'];rw[show((0:Nat):Int)=0 from rfl]at q1;rw[q1,Aa];simp only;have em:ad (Q.length:Int) (bs:Int)=((Q.length+bs:Nat):Int):=by grind [Cq]
    rw[em];by_cases hm:Q.length+bs<l.length
    ·rw[Ag (by omega:((Q.length+bs:Nat):Int)<(l.length:Int)),As];obtain⟨X,Y,rfl,lX,sX,sY⟩:∃X Y,R=X++Y/\X.length=bs/\Oi key X/\Oi key Y:=by
      cases q4 with
      |last h hs=>omega
      | @cons X l' h hs hl=>
       refine⟨X,l',rfl,h,hs,?_⟩
       cases hl with
       |last h' hs'=>exact hs'
       | @cons Y l'' h' hs' hl'=>grind
     simp only[AG]at a q3;obtain⟨Z,z1,z2,z3⟩:=QV key ((Q++(X++Y)).length+1) Q X Y [] (by grind) (by grind) sX sY (by grind) (by grind);have e5:Q++X++Y++ []=Q++(X++Y):=by simp
     rw[e5,A6,lX,show Q.length+bs+Y.length=l.length by omega]at z1;rw[z1,Aa];have lZ:Z.length=(X++Y).length:=(z3.len key).symm;obtain⟨r,r1,r2,r3⟩:=ih (2*bs) (Q++Z) (by omega) (by omega) (by omega) (by grind)<|q5 Z z2 lZ
     grind [Bg.trans,DM,Bg.refl]
    rw[Aq (by omega:¬((Q.length+bs:Nat):Int)<(l.length:Int)),Ae];have sR:Oi key R:=by
     cases q4 with
     |last h hs=>exact hs
     | @cons X l' h hs hl=>
      simp only[AG]at a;have:l'=[]:=AN<|by omega
      grind
    obtain⟨r,r1,r2,r3⟩:=ih (2*bs) (Q++R) (by omega) (by omega) (by omega) (by grind)<|q5 R sR rfl
    grind [Bg.trans]
   grind
 unfold BY;rw[Cs];obtain⟨Q,R,q1,q2,q3,q4⟩:=WD key l.length hN (λs=>BP (J7 key) (l.length:Int) s.1 s.2.1 s.2.2) (λ_ _ _=>rfl) l.length [] l (A8 _) (by simp);simp only[RO,Ar,HK]at q1;rw[show((0:Nat):Int)=0 from rfl,show((20:Nat):Int)=20 from rfl]at q1;rw[q1,Aa];have a:Q.length+R.length=l.length:=by have:=q2.len key;grind
 obtain⟨R',r1,r2,r3⟩:=FE key Q R [] (by grind);rw[A6,A6,a]at r1;simp only;rw[r1,Aa];have lR:R'.length=R.length:=(r3.len key).symm;obtain⟨r,w1,w2,w3⟩:=rounds (λs=>Cd (J7 key) (l.length:Int) s.1 s.2) (λ_ _=>rfl) l.length 20 (Q++R') (by omega) (by omega) (by omega) (by grind)<|q4 R' r2 lR
 grind [Bg.trans,DM,Bg.refl]
end
end Go.TI
