/- What is done in a life without torn steps is lawful. No condition; no program is in sight. -/
import Derived.Test.YtpnbblnolkhliaaGreatLFP2
set_option linter.unusedVariables false
set_option linter.unusedSimpArgs false
namespace Go.TI
open Go
variable {r a b r':List Ap} {d e:Device} {n k m:Nat} {s:Store} {y:Ap} {f g:Flash} {c:BT} {T:List ByteArray} {p:Page} {q:Ask} {nd:List Bool} {l:List Int} {K:Ks} {v:Vol}
theorem eI (h:He d r):∃v,LF d=some v:=by
 have hr:=h.pages;unfold LF
 cases(d.Base !=sb d.Tx 1)with
 |true=>exact⟨_,rfl⟩
 |false=>
  rw[h.scan.s,Aa,Pi r hr];simp only[Aa];obtain⟨g1,_⟩:=Vv hr;obtain⟨b,h1,_⟩:=AJ (body:=λs:Int=>GA d (Be r) s) (λ(_:Unit) i=>i) (Be r).length (λ_ _=>True) (λ_=>True)
   (λ_ i hi _=>by
    have hx:=Ab hi;simp only[GA,DK hi,Au,hx,Aa];rw[ad1]
    cases((Be r)[i].Num==d.Base)with
    |false=>simp
    |true=>
     cases a:(Be r)[i].Recs with
     |nil=>exact .inr ⟨_,rfl,trivial⟩
     |cons q m=>
      have hg:gi (q::m) 0=some q:=Au (i:=0)
      grind)
   (λ_ _=>⟨.inl (),by simp only[GA,D1],trivial⟩) (s:=()) trivial
  rw[h1]
  cases b with
  |inl u=>exact⟨_,rfl⟩
  |inr v=>exact⟨v,rfl⟩
theorem eN (h:He d r):∃v,LK d=some v:=by
 have hn:=h.fl.n;obtain⟨live,l1,_,_,l4⟩:=Hx h.st;unfold LK;rw[h.scan.s,l1];simp only[Aa];rw[NA r live d.Base h.scan.len l4,NA r live 1000000000 h.scan.len l4]
 have a:∀b,live.foldl (fC r) (r.map<|DA b)=C8 r live b:=λ_=>rfl
 rw[a,a];obtain⟨b,h1,_⟩:=AJ (body:=λs:Int×Int×Int=>D7 d r (C8 r live d.Base) (C8 r live 1000000000) s.1 s.2.1 s.2.2) (λ(o:Int×Int) i=>(o.1,o.2,i)) d.Flash.Blocks.length (λ_ _=>True) (λ_=>True)
  (λo i hi _=>by
   have hx:=Ab hi;have hP:=h.fl.blk _<|Az hi;simp only[D7,DK hi,Au,hx,Aa];rw[aW r _ (i:Int) h.scan.len<|Kx _ _ _,aW r _ (i:Int) h.scan.len<|Kx _ _ _,KP _ hP.four,ad1];simp only[Aa,JH]
   cases(bif !d.Flash.Blocks[i].Bad then _ else false)with
   |true=>simp
   |false=>grind)
  (λo _=>⟨o.1,by simp only[D7,D1],trivial⟩) (s:=(-1,4)) trivial
 grind
theorem He.seqs (h:He d r):0<=d.Seq/\d.Seq<=1000000001:=by
 rw[h.seq];have h1:=Om r;refine⟨by omega,h1.2.2 _ (by omega) λy hy=>?_⟩;have:=(h.pages.seq y hy).2;omega
theorem kF (h:∀y∈r',y.Page.Kind=2->y.Page.Tx<Ey r+n):Ey r'<=Ey r+n:=(kG r').2.2 _ (by have:=(kG r).2.1;omega) h
theorem Zh (n:Nat) (hy:y∈r) (hk:y.Page.Kind=2):y.Page.Tx<Ey r+n:=by have:=(kG r).1 y hy hk;omega
theorem iL {seq tx:Int} (h:p∈Cq seq tx T):p.Tx=tx:=by
 unfold Cq at h
 grind
theorem kO (h:∀y∈r',y.Page.Seq<Dk r+n):Dk r'<=Dk r+n:=(Om r').2.2 _ (by have:=(Om r).2.1;omega) h
theorem Zj (n:Nat) (hy:y∈r):y.Page.Seq<Dk r+n:=by have:=(Om r).1 y hy;omega
theorem tW {seq tx:Int} (h:p∈Cq seq tx T):p.Seq<seq+T.length:=by
 unfold Cq at h
 grind
theorem gD {c:Int} {a:ByteArray} (h:p∈CN d c a++Cq (Io d a) d.Tx T):p.Seq<d.Seq+1+T.length:=by
 rcases Ao.1 h with h|h
 ·unfold CN at h
  grind
 have h1:=tW h;have h2:Io d a<=d.Seq+1:=by unfold Io;split<;>omega
 omega
theorem Pp {seq tx:Int} (h:p∈Cq seq tx T):p.Kind=2:=by
 unfold Cq at h
 grind
def AAN (m:Flash) (s:AL) (g:Flash):Prop:=Bx g/\ZE m g/\((s.Kind=1/\KS 0 g.Blocks=KS 0 m.Blocks)\/(s.Kind=2/\KS 0 g.Blocks=(KS 0 m.Blocks).filter λy=>y.Block !=s.Block))
def Y9 (f:Flash) (ss:List AL) (k:Nat) (g:Flash):Prop:=∃m,Steps f (ss.take k) m/\(g=m\/∃s,ss[k]?=some s/\PA m s/\AAN m s g)
theorem Ml:∀{f:Flash} {a:List AL} {g m:Flash},Steps f a g->Steps f a m->g=m
 |f,[],g,m,h,k=>by rw[show g=f from h,show m=f from k]
 |f,s::a,g,m,h,k=>Ml h.2 k.2
theorem jJ {m:Flash} {a b:List AL} (h:Y9 f (a++b) k g) (hs:Steps f a m):(k<a.length/\Y9 f a k g)\/(a.length<=k/\Y9 m b (k-a.length) g):=by
 obtain⟨x,h1,h2⟩:=h;by_cases e:k<a.length
 ·left;rw[List.take_append_of_le_length<|by omega]at h1;rw[BP e]at h2;exact⟨e,x,h1,h2⟩
 right;rw[List.take_append,AK<|by omega]at h1;rw[Bt<|by omega]at h2;obtain⟨y,y1,y2⟩:=(Gi _ _ _ _).1 h1;rw[Ml y1 hs]at y2;exact⟨by omega,x,y2,h2⟩
structure JN (n:Nat) (d:Device) (r:List Ap) (d':Device) (r':List Ap):Prop where
 good:JO d' r'
 ab:AM d'.Store=AM d.Store
 nx:d'.Store.Next=d.Store.Next
 pg:∀y∈r',y.Page.Kind=1->∃z∈r,z.Page.Kind=1/\z.Page.Tx=y.Page.Tx/\z.Page.Text=y.Page.Text
 tx:Ey r'<=Ey r+n
 wear:∀w:Int,Gk d.Flash w->Gk d'.Flash (w+n)
 text:∀c,DG (AM d.Store) c->Cc r' c=Cc r c
 sq:Dk r'<=Dk r+200*n
structure As (d:Device) (r:List Ap) (d':Device) (r':List Ap):Prop where
 good:JO d' r'
 ab:AM d'.Store=AM d.Store
 nx:d'.Store.Next=d.Store.Next
 tx:Ey r'<=Ey r+1
 wear:∀w:Int,Gk d.Flash w->Gk d'.Flash (w+1)
 text:∀c,DG (AM d.Store) c->Cc r' c=Cc r c
theorem As.torn (h:As d a e b) (hg:Bx g) (hp:KS 0 g.Blocks=KS 0 e.Flash.Blocks) (hw:ZE e.Flash g):∃x,C7 g=some (x,true)/\x.Flash=g/\As d a x b:=by
 obtain⟨x,u1,u2,u3⟩:=Ni hg (r:=b) (by rw[hp];exact h.good.dev.sr);obtain⟨e1,e2,_⟩:=Ip h.good.dev u2 rfl;exact⟨x,u1,u3,⟨⟨u2,h.good.core,by rw[e1];exact h.good.data⟩,by rw[e1,h.ab],by rw[e2,h.nx],h.tx,λw hh=>by rw[u3];exact hw _<|h.wear w hh,h.text⟩⟩
theorem Ze (h:ZE f g) (w:Int) (hw:Gk f w):Gk g (w+n):=λb hb=>by have:=h w hw b hb;omega
theorem JN.refl (h:JO d r):JN n d r d r:=⟨h,rfl,rfl,λy hy hk=>⟨y,hy,hk,rfl,rfl⟩,by omega,Ze λ_ h=>h,λ_ _=>rfl,by omega⟩
theorem JN.trans {g:Device} {c:List Ap} (h:JN n d a e b) (k:JN m e b g c):JN (n+m) d a g c:=⟨k.good,by rw[k.ab,h.ab],by rw[k.nx,h.nx],λy hy hk=>by
 obtain⟨z,z1,z2,z3,z4⟩:=k.pg y hy hk;obtain⟨w,w1,w2,w3,w4⟩:=h.pg z z1 z2
 grind,by have:=h.tx;have:=k.tx;omega,λw hw=>by
 have:=k.wear _<|h.wear w hw
 grind,λc hc=>by rw[k.text c (by rw[h.ab];exact hc),h.text c hc],by have:=h.sq;have:=k.sq;omega⟩
theorem JN.mono (h:JN n d a e b) (hm:n<=m):JN m d a e b:={h with
 tx:=by have:=h.tx;omega
 wear:=λw hw x hx=>by have:=h.wear w hw x hx;omega
 sq:=by have:=h.sq;omega}
theorem JN.torn (h:JN n d a e b) (hg:Bx g) (hp:KS 0 g.Blocks=KS 0 e.Flash.Blocks) (hw:ZE e.Flash g):∃x,C7 g=some (x,true)/\x.Flash=g/\JN n d a x b:=by
 obtain⟨x,u1,u2,u3⟩:=Ni hg (r:=b) (by rw[hp];exact h.good.dev.sr);obtain⟨e1,e2,_⟩:=Ip h.good.dev u2 rfl;exact⟨x,u1,u3,⟨⟨u2,h.good.core,by rw[e1];exact h.good.data⟩,by rw[e1,h.ab],by rw[e2,h.nx],h.pg,h.tx,λw hh=>by rw[u3];exact hw _<|h.wear w hh,h.text,h.sq⟩⟩
def L7 (n:Nat) (d:Device) (r:List Ap) (steps:List AL):Prop:=(∃m,Steps d.Flash steps m)/\∀k g,k<=steps.length->Y9 d.Flash steps k g->∃x rx,C7 g=some (x,true)/\x.Flash=g/\JN n d r x rx
theorem iH {steps:List AL} (h1:∀s∈steps,s.Kind=1) (hc:∀k,k<=steps.length->∃x rx,Steps d.Flash (steps.take k) x.Flash/\C7 x.Flash=some (x,true)/\JN n d r x rx):L7 n d r steps:=by
 refine⟨?_,λk g hk hg=>?_⟩
 ·obtain⟨x,rx,c1,_⟩:=hc steps.length (Ay _)
  grind
 obtain⟨x,rx,c1,c2,c3⟩:=hc k hk;obtain⟨m,m1,m2⟩:=hg;have:=Ml m1 c1;subst this
 rcases m2 with rfl|⟨s,s1,_,s2,s3,⟨_,s4⟩|⟨s4,_⟩⟩
 ·grind
 ·obtain⟨y,y1,y2,y3⟩:=c3.torn s2 s4 s3
  grind
 grind
theorem L7.full {steps:List AL} (h:JO d r) (hc:L7 n d r steps) (hl:steps.length<=1000000):∃x rx,Hw d steps=some x/\Steps d.Flash steps x.Flash/\JN n d r x rx:=by
 obtain⟨⟨m,hm⟩,hk⟩:=hc;obtain⟨x,rx,x1,x2,x3⟩:=hk steps.length m (Ay _) ⟨m,by grind,.inl rfl⟩;exact⟨x,rx,QK h.dev hm (by omega) x1,by rw[x2];exact hm,x3⟩
theorem AAC {re:List Ap} {a b:List AL} (hk:JN n d r e re) (hs:Steps d.Flash a e.Flash) (ha:L7 n d r a) (hb:L7 m e re b):L7 (n+m) d r (a++b):=by
 refine⟨?_,λk g c hg=>?_⟩
 ·obtain⟨x,hx⟩:=hb.1;exact⟨x,(Gi _ _ _ _).2 ⟨_,hs,hx⟩⟩
 rw[Ak]at c
 rcases jJ hg hs with⟨e1,e2⟩|⟨e1,e2⟩
 ·obtain⟨x,rx,x1,x2,x3⟩:=ha.2 k g (by omega) e2;exact⟨x,rx,x1,x2,x3.mono<|by omega⟩
 obtain⟨x,rx,x1,x2,x3⟩:=hb.2 _ g (by omega) e2;exact⟨x,rx,x1,x2,hk.trans x3⟩
theorem bB (r m:List Ap) (c:Int) (h:∀y∈m,¬(y.Page.Kind=1/\y.Page.Tx=c)):KU (r++m) c=KU r c:=by
 unfold KU;rw[AR,Bq.2 λy hy hh=>h y hy<|SN.1 hh,AC]
theorem d8 (h:JO d r) (hw:Gk d.Flash 999999999):∃steps ok,LR d=some (steps,ok)/\steps.length<=200/\(ok=false->steps=[])/\(ok=true->L7 1 d r steps):=by
 have hv:=h.dev.st.vs;obtain⟨dead,d1,d2,d3⟩:=aN h.dev;unfold LR;rw[d1];simp only[Aa]
 cases hd:dead with
 |cons b m=>
  rw[Ac (by rw[Bh,AA];omega:ln (b::m)>0),show gi (b::m) 0=some b from Au (i:=0)];refine⟨_,_,rfl,by simp,(λhh=>by cases hh),λ_=>?_⟩;obtain⟨x,x1,x2,x3⟩:=d3 b (by rw[hd];simp);have hc:ACr d.Flash b:=⟨x,x1,x2,λe=>by have:=hw x<|Ar (Cv x1).2;omega⟩;have hs:PA d.Flash (AL.mk 2 b 0<|bs []):= .inr ⟨rfl,hc⟩;obtain⟨w1,w2⟩:=XX h.dev.fl hc;have he:KC d.Flash (AL.mk 2 b 0<|bs [])=VF d.Flash b:=by rfl
  have wp:∀g,Bx g->KS 0 g.Blocks=((KS 0 d.Flash.Blocks).filter λy=>y.Block !=b)->(∀w:Int,Gk d.Flash w->Gk g (w+1))->∃x rx,C7 g=some (x,true)/\x.Flash=g/\JN 1 d r x rx:=by
   intro g g1 g2 g3;obtain⟨d',u1,u2,u3,u4,u5,_,u6⟩:=ACS h x3 g1 g2;exact⟨d',_,u1,u2,u3,u4,u5,λy hy hk=>⟨y,(AX.1 hy).1,hk,rfl,rfl⟩,kF λy hy hk=>Zh _ (AX.1 hy).1 hk,by rw[u2];exact g3,u6,kO (n:=200*1) λy hy=>Zj _ (AX.1 hy).1⟩
  refine⟨⟨_,hs,rfl⟩,λk g hk hg=>?_⟩;obtain⟨q,q1,q2⟩:=hg
  cases k with
  |zero=>
   rw[show q=d.Flash from q1]at q2
   rcases q2 with rfl|⟨s,s1,_,s2,s3,⟨s4,_⟩|⟨_,s4⟩⟩
   ·obtain⟨x,u1,u2,u3⟩:=(JN.refl (n:=1) h).torn h.dev.fl rfl λ_ hh=>hh
    grind
   ·grind
   simp only[Jr,Av]at s1;rw[<-s1]at s4
   exact wp g s2 s4 λw hh y hy=>by have:=s3 w hh y hy;omega
  |succ k=>
   have q1':Steps d.Flash [AL.mk 2 b 0<|bs []] q:=by simpa using q1
   have e:q=VF d.Flash b:=by rw[show q=KC d.Flash (AL.mk 2 b 0<|bs [])from q1'.2,he]
   rcases q2 with rfl|⟨s,s1,_⟩
   ·rw[e]
    exact wp _ w1 w2 λw hh=>by rw[<-he];exact gP hh (by omega)<|.inr<|Ju _
   simp at s1
 |nil=>
  rw[show decide (ln ([]:List Int)>0)=false from rfl];obtain⟨v,v1⟩:=eI h.dev;rw[v1];simp only[Aa]
  cases v with
  |false=>
   unfold MN;rw[Wq h.dev.st];simp only[Aa];obtain⟨b1,b2⟩:=jS hv
   rcases RN h.dev.fl h.dev.seqs (Lr (AM d.Store) d.Store.Next) (by unfold Lr;simp) b2 b1 (bs [])with w|⟨steps,T,g,f,w1,w2,w3,w4,w5,w6,w7,w8,w9⟩
   ·grind
   rw[w2];simp only[Aa];have j:=(Ft w7).2;have l:(Cq (Io d<|bs []) d.Tx T).length=T.length:=by unfold Cq;grind
   have o:CN d f.Chunk (bs [])=[]:=by rfl
   rw[o,A3,l]at j;refine⟨_,_,rfl,by omega,(λhh=>by cases hh),λ_=>iH (RQ w7) λk hk=>?_⟩;obtain⟨m,d',r',c1,c2,c3,c4,c5,rfl,cw,c6,c7,c8,c9⟩:=Xd h b1 w3 w4 w5 w6 w7 w9 (λhh=>absurd (El _) hh) k hk;have a:AM d'.Store=AM d.Store/\d'.Store.Next=d.Store.Next:=by
    by_cases e:k<steps.length
    ·obtain⟨e1,e2,_⟩:=Ip h.dev c4 (by rw[c8 e]);exact⟨e1,e2⟩
    obtain⟨q,hq⟩:=(c9<|by omega).1;have hB:fE (Tx.mk d.Tx q<|Lr (AM d.Store) d.Store.Next)=true:=rfl;have a:=c4.ab;rw[hq,T5,AH hB]at a;have:O6 [Tx.mk d.Tx q<|Lr (AM d.Store) d.Store.Next]=(AM d.Store,d.Store.Next):=by
     show(CV [] 1<|Lr (AM d.Store) d.Store.Next).getD ([],1)=_;rw[jT hv];rfl
    grind
   have hX:∀y∈(Cm steps<|CN d f.Chunk (bs [])++Cq (Io d<|bs []) d.Tx T).take k,y.Page.Kind=2/\y.Page.Tx=d.Tx:=λy hy=>by
    have cP:=MQ _ _ _ y hy;exact⟨Pp cP,iL cP⟩
   refine⟨d',_,by rw[c5];exact c1,by rw[c5];exact c3,⟨c4,c6,by rw[a.1];exact c7⟩,a.1,a.2,λy hy hk=>?_,kF λy hy hk=>?_,by rw[c5];exact Ze (n:=1) cw,λc hc=>?_,kO (n:=200*1) λy hy=>?_⟩
   ·grind
   ·rcases Ao.1 hy with hh|hh
    ·exact Zh _ hh hk
    rw[(hX y hh).2,h.dev.tx];omega
   ·unfold Cc;rw[bB _ _ _ λy hy hh=>by grind]
   rcases Ao.1 hy with hh|hh
   ·exact Zj _ hh
   have:=gD<|MQ _ _ _ y hh;rw[h.dev.seq]at this;omega
  |true=>
   simp only[An,Ad];obtain⟨vi,vi1⟩:=eN h.dev;rw[vi1];simp only[Aa]
   cases decide (vi<0)with
   |true=>grind
   |false=>
    rcases eX h.dev h.few vi with w|⟨steps,ps,g,w1,w2,w3,w4,w5,w6,w7⟩
    ·grind
    rw[w1];refine⟨steps,true,rfl,by omega,(λhh=>by cases hh),λ_=>iH (RQ w2) λk hk=>?_⟩;obtain⟨m,d',c1,c2,c3,c4,c5,c6,_,cw,c7⟩:=ABO h w2 w4 w5 w6 k;refine⟨d',_,by rw[c4];exact c1,by rw[c4];exact c3,c5,c6.ab,c6.nx,λy hy hk=>?_,kF λy hy hk=>?_,by rw[c4];exact Ze (n:=1) cw,c7,kO (n:=200*1) λy hy=>?_⟩
    ·rcases Ao.1 hy with hh|hh
     ·grind
     obtain⟨⟨_,_,z,z1,z2⟩,_⟩:=w6 _<|MQ _ _ _ _ hh;obtain⟨a1,a2,a3⟩:=W3 z1
     grind
    ·rcases Ao.1 hy with hh|hh
     ·exact Zh _ hh hk
     have:=(w6 _<|MQ _ _ _ _ hh).1.1;omega
    rcases Ao.1 hy with hh|hh
    ·exact Zj _ hh
    have:=w7 _<|MQ _ _ _ _ hh;rw[h.dev.seq]at this;omega
theorem Q4 (h:Bx f):∃v:Int,MH f=some v:=by
 obtain⟨v,v1,_⟩:=XS f h.cap (by have:=h.few;omega);exact⟨v,v1⟩
theorem d9 (h:JO d r) (hw:Gk d.Flash 999999000) (most:Int):∃d' all r',I5 d most=some (d',all)/\JN 20 d r d' r'/\all.length<=4000/\Steps d.Flash all d'.Flash/\L7 20 d r all:=by
 unfold I5;rw[M9 h.dev];simp only[Aa]
 have l:∀{n:Nat} {a:List AL},n<=20->L7 n d r a->L7 20 d r a:=λhn hc=>⟨hc.1,λk g hk hg=>by
  obtain⟨x,rx,x1,x2,x3⟩:=hc.2 k g hk hg
  exact⟨x,rx,x1,x2,x3.mono hn⟩⟩
 obtain⟨b,h1,d',all,r',h2,h3,h4,h5,h6⟩:=AJ (body:=λs:List AL×Int×List Block×List Vol×List Bs×Int×Int×Int×Int=>EB most s.1 s.2.1 s.2.2.1 s.2.2.2.1 s.2.2.2.2.1 s.2.2.2.2.2.1 s.2.2.2.2.2.2.1 s.2.2.2.2.2.2.2.1 s.2.2.2.2.2.2.2.2)
  (λ(o:List AL×Device) i=>(o.1,i,o.2.Flash.Blocks,o.2.Store.Vols,o.2.Store.Arena.Knots,o.2.Store.Next,o.2.Seq,o.2.Tx,o.2.Base)) 20
  (λi o=>o.1.length<=200*i/\∃r',JN i d r o.2 r'/\Steps d.Flash o.1 o.2.Flash/\L7 i d r o.1)
  (λb=>∃d' all r',(b= .inr (d',all)\/b= .inl (all,d'.Flash.Blocks,d'.Store.Vols,d'.Store.Arena.Knots,d'.Store.Next,d'.Seq,d'.Tx,d'.Base))/\JN 20 d r d' r'/\all.length<=4000/\Steps d.Flash all d'.Flash/\L7 20 d r all)
  (λo i hi hs=>by
   obtain⟨all,e⟩:=o;obtain⟨j,r',hg,c,f⟩:=hs;simp only at j hg c f;have m:Device.mk (Flash.mk e.Flash.Blocks) (Store.mk e.Store.Vols (Arena.mk e.Store.Arena.Knots) e.Store.Next) e.Seq e.Tx e.Base=e:=rfl;have p:Flash.mk e.Flash.Blocks=e.Flash:=rfl;simp only[EB];rw[m,p];obtain⟨v,v1⟩:=Q4 hg.good.dev.fl;rw[v1,Ac (by omega:(i:Int)<20)];simp only[Ai,Aa,JH]
   cases(bif decide ((i:Int)<most)then decide (v<12)else false)with
   |false=>
    exact .inr ⟨_,rfl,e,all,r',.inr rfl,hg.mono (by omega),by omega,c,l (by omega) f⟩
   |true=>
    obtain⟨steps,ok,c1,c2,_,c3⟩:=d8 hg.good (λx hx=>by have:=hg.wear _ hw x hx;omega);rw[c1];simp only[Aa]
    cases ok with
    |false=>
     exact .inr ⟨_,rfl,e,all,r',.inl rfl,hg.mono (by omega),by omega,c,l (by omega) f⟩
    |true=>
     obtain⟨d',r2,k1,k2,k3⟩:=(c3 rfl).full hg.good (by omega);rw[k1,Aa,Bi (by omega),ad1]
     exact .inl ⟨(all++steps,d'),rfl,by simp;omega,r2,hg.trans k3,(Gi _ _ _ _).2 ⟨_,c,k2⟩,AAC hg c f<|c3 rfl⟩)
  (λo hs=>by
   obtain⟨all,e⟩:=o;obtain⟨j,r',hg,c,f⟩:=hs;refine⟨.inl (all,e.Flash.Blocks,e.Store.Vols,e.Store.Arena.Knots,e.Store.Next,e.Seq,e.Tx,e.Base),?_,e,all,r',.inr rfl,hg,by simpa using j,c,f⟩;simp only[EB]
   grind) (s:=([],d)) ⟨by simp,r,JN.refl h,rfl,⟨⟨_,rfl⟩,λk g hk hg=>by
   obtain⟨q,q1,q2⟩:=hg;rw[List.take_nil]at q1;rw[show q=d.Flash from q1]at q2
   rcases q2 with rfl|⟨s,s1,_⟩
   ·obtain⟨x,u1,u2,u3⟩:=(JN.refl (n:=0) h).torn h.dev.fl rfl λ_ hh=>hh
    grind
   simp at s1⟩⟩
 rw[h1]
 rcases h2 with rfl|rfl
 ·grind
 exact⟨d',all,r',rfl,h3,h4,h5,h6⟩
theorem ABe {r:Int} (h:k<16):(EF K r)[k]?=some (Sc K r k):=by unfold EF;exact HO h
theorem pM (h:C5 s) (vol:Int) (hk:k<16):∃c,LS s vol (k:Int)=some c/\((HK (AM s) vol=none/\c=0)\/∃a,HK (AM s) vol=some a/\a[k]?=some c/\0<=c/\(c≠0->DG (AM s) c)):=by
 have hl:=h.len;unfold LS
 rcases DU s (by omega) vol with⟨e,e2⟩|⟨i,v,e,e2,e3,_⟩
 ·rw[e];exact⟨0,rfl,.inl ⟨Jo.1 e2,rfl⟩⟩
 rw[e];simp only[Aa];have hm:=Ar e2;have hr:=h.root _<|A6.2 ⟨v,hm,rfl⟩;rw[cF,Au,e2,Aa,aJ _ (by have:=h.few;omega) h.ar hr hk];have hg:=Mb h.asc hm;rw[e3]at hg;have h0:=rN h.ar hr _<|dD hk;exact⟨_,rfl,.inr ⟨_,hg,ABe hk,h0,λb=>⟨by omega,_,A6.2 ⟨v,hm,rfl⟩,dD hk⟩⟩⟩
theorem Yg (h:JO d r) (vol:Int) (hk:k<16):(HK (AM d.Store) vol=none/\Fw r d.Store vol (k:Int)=some (bs [],false))\/
  ∃a c,HK (AM d.Store) vol=some a/\a[k]?=some c/\LS d.Store vol (k:Int)=some c/\((c=0/\Fw r d.Store vol (k:Int)=some (bs [],true))\/(0<c/\DG (AM d.Store) c/\∃u,Cc r c=some u/\Fw r d.Store vol (k:Int)=some (u,true))):=by
 have hl:=h.dev.st.len;obtain⟨c,c1,c2⟩:=pM h.dev.st vol hk;unfold Fw;rw[c1]
 rcases DU d.Store (by omega) vol with⟨e,e2⟩|⟨i,v,e,e2,e3,_⟩
 ·rw[e];exact .inl ⟨Jo.1 e2,rfl⟩
 have hg:=Mb h.dev.st.asc<|Ar e2;rw[e3]at hg
 rcases c2 with⟨c2,_⟩|⟨a,c2,c3,c4,c5⟩
 ·grind
 rw[e];simp only[Aa];rw[cF];right;by_cases e0:c=0
 ·grind
 rw[show(c==0)=false by simpa using e0];have b:=c5 e0;obtain⟨u,hu⟩:=h.data.data c b;obtain⟨w,ok,t1,t2⟩:=o9 h.dev.pages c
 grind
theorem dW (h:He d r) {a:List Cw} {b:ByteArray} (hp:EJ d q=some (a,b,0)):AD6 q:=by
 obtain⟨v,a1,a2⟩:=PY q
 cases v with
 |true=>exact a2 rfl
 |false=>
  unfold EJ at hp
  grind
def sL (r r':List Ap) (c:Int) (a:ByteArray):Prop:=(∀y∈r',y.Page.Kind=1->(∃z∈r,z.Page.Kind=1/\z.Page.Tx=y.Page.Tx/\z.Page.Text=y.Page.Text)\/(L a≠ []/\y.Page.Tx=c/\y.Page.Text=a))/\Ey r'<=Ey r+1/\Dk r'<=Dk r+10
theorem ACR {x:Cw} (h:JO d r) {a:ByteArray} (hx:pS d r q x a):Dn d [x] a=some ([],false)\/∃steps d' r',Dn d [x] a=some (steps,true)/\steps.length<=10/\Hw d steps=some d'/\JO d' r'/\
  (AM d'.Store,d'.Store.Next)=(Dc (AM d.Store) d.Store.Next x).getD (AM d.Store,d.Store.Next)/\d.Store.Next<=d'.Store.Next/\d'.Store.Next<=d.Store.Next+1/\sL r r' x.Chunk a/\ZE d.Flash d'.Flash/\Steps d.Flash steps d'.Flash/\((∀c,DG (AM d.Store) c->Cc r' c=Cc r c)/\(L a≠ []->Cc r' x.Chunk=Xe a))/\1<=steps.length/\∀k g,k<steps.length->Y9 d.Flash steps k g->∃y ry,C7 g=some (y,true)/\y.Flash=g/\As d r y ry/\sL r ry x.Chunk a:=by
 obtain⟨x1,x2,xv,x3⟩:=hx;have h7:=h.dev.st.nx
 have i:∀z∈ [x],GB z=true:=λz hz=>by grind
 rcases RN h.dev.fl h.dev.seqs [x] (by simp) (by simp) i a with w|⟨steps,T,g,b,w1,w2,w3,w4,w5,w6,w7,w8,w9⟩
 ·exact .inl w
 right;have j:b=x:=by simpa using w1.symm
 subst j;have o:=(Ft w7).2;have h2:(Cq (Io d a) d.Tx T).length=T.length:=by unfold Cq;grind
 have h8:(CN d b.Chunk a).length<=1:=by unfold CN;split<;>simp
 rw[Ak,h2]at o
 have t:L a≠ []->¬DG (AM d.Store) b.Chunk:=λht h3=>by
  rcases x3 with⟨x3,_⟩|⟨_,x4,_⟩
  ·exact ht x3
  have:=Zs h.dev.st h3;omega
 have tk:∀k c,DG (AM d.Store) c->Cc (r++(Cm steps<|CN d b.Chunk a++Cq (Io d a) d.Tx T).take k) c=Cc r c:=λk c hc=>by
  unfold Cc;rw[bB _ _ _ λz hz hh=>?_];have h4:=MQ _ _ _ z hz
  rcases Ao.1 h4 with hh2|hh2
  ·unfold CN at hh2
   grind
  have:=Pp hh2;omega
 have tn:L a≠ []->Cc (r++(Cm steps<|CN d b.Chunk a++Cq (Io d a) d.Tx T).take steps.length) b.Chunk=Xe a:=λe=>by
  rw[AK (by unfold Cm;grind),show CN d b.Chunk a=[Page.mk 1 d.Seq b.Chunk 0 1 a] by unfold CN;rw[AO e]]
  cases steps with
  |nil=>grind
  |cons s ss=>
   show Cc (r++Ap.mk s.Block s.Leaf (Page.mk 1 d.Seq b.Chunk 0 1 a)::Cm ss (Cq (Io d a) d.Tx T)) b.Chunk=_;unfold Cc;rw[List.append_cons,iQ _ _ (λy hy=>by have:=Pp (MQ ss _ _ y (by rw[DN];exact hy));omega),MS,AH ⟨rfl,rfl⟩];rfl
 have fw:∀k,sL r (r++(Cm steps<|CN d b.Chunk a++Cq (Io d a) d.Tx T).take k) b.Chunk a:=λk=>by
  have cP:∀y∈r++(Cm steps<|CN d b.Chunk a++Cq (Io d a) d.Tx T).take k,y∈r\/y.Page∈CN d b.Chunk a++Cq (Io d a) d.Tx T:=λy hy=>(Ao.1 hy).imp id<|MQ _ _ _ y
  refine⟨λy hy hk=>?_,kF (n:=1) λy hy hk=>?_,kO (n:=10) λy hy=>?_⟩
  ·rcases cP y hy with hh|hh
   ·grind
   rcases Ao.1 hh with hh|hh
   ·unfold CN at hh;by_cases e:L a=[]
    ·grind
    grind
   have:=Pp hh;omega
  ·rcases cP y hy with hh|hh
   ·exact Zh _ hh hk
   rcases Ao.1 hh with hh|hh
   ·unfold CN at hh
    grind
   rw[iL hh,h.dev.tx];omega
  rcases cP y hy with hh|hh
  ·exact Zj _ hh
  have:=gD hh;rw[h.dev.seq]at this;omega
 have cut:∀k g,k<steps.length->Y9 d.Flash steps k g->∃y ry,C7 g=some (y,true)/\y.Flash=g/\As d r y ry/\sL r ry b.Chunk a:=λk g hk hg=>by
  obtain⟨m,y,ry,c1,c2,c3,c4,c5,hr',cw,c6,c7,c8,_⟩:=Xd h i w3 w4 w5 w6 w7 w9 t k (by omega);obtain⟨e1,e2,_⟩:=Ip h.dev c4 (by rw[c8 hk]);subst hr';have h5:As d r y (r++(Cm steps<|CN d b.Chunk a++Cq (Io d a) d.Tx T).take k):=⟨⟨c4,c6,by rw[e1];exact c7⟩,e1,e2,(fw k).2.1,by rw[c5];exact Ze (n:=1) cw,tk k⟩;obtain⟨q,q1,q2⟩:=hg;have:=Ml q1 c1;subst this
  rcases q2 with rfl|⟨s,s1,_,s2,s3,⟨_,s4⟩|⟨s4,_⟩⟩
  ·grind
  ·obtain⟨z,z1,z2,z3⟩:=h5.torn s2 (by rw[c5];exact s4) (by rw[c5];exact s3)
   grind
  have:=RQ w7 s<|Ar s1;omega
 obtain⟨m,d',r',c1,c2,c3,c4,c5,hr',cw,c6,c7,_,c9⟩:=Xd h i w3 w4 w5 w6 w7 w9 t steps.length<|Ay _;rw[<-c5]at cw;rw[DN]at c1;have u:Steps d.Flash steps d'.Flash:=by rw[c5];exact c1
 have v:sL r r' b.Chunk a:=by rw[hr'];exact fw _
 have tt:(∀c,DG (AM d.Store) c->Cc r' c=Cc r c)/\(L a≠ []->Cc r' b.Chunk=Xe a):=by grind
 obtain⟨⟨qn,hq⟩,c10⟩:=c9 rfl;have hB:¬fE (Tx.mk d.Tx qn [b])=true:=by
  unfold fE;simpa using x2
 have f:=c4.ab;rw[hq,T5,AO hB,bF,<-h.dev.ab]at f;have h6:CV (AM d.Store) d.Store.Next [b]=Dc (AM d.Store) d.Store.Next b:=by rfl
 simp only[h6]at f;have h0:=QK h.dev c1 (by omega) c3
 cases l:Dc (AM d.Store) d.Store.Next b with
 |none=>
  rw[l]at f;have e1:AM d'.Store=AM d.Store:=BM Prod.fst f;have e2:d'.Store.Next=d.Store.Next:=BM Prod.snd f;exact⟨steps,d',r',w2,by omega,h0,⟨c4,c6,by rw[e1];exact c7⟩,by rw[e1,e2];rfl,by omega,by omega,v,cw,u,tt,by omega,cut⟩
 |some p=>
  obtain⟨l',nx'⟩:=p;rw[l]at f;have e1:AM d'.Store=l':=BM Prod.fst f;have e2:d'.Store.Next=nx':=BM Prod.snd f;obtain⟨v1,v2,v3⟩:=Y7 l x2
  have hz:∀c,DG l' c->c=b.Chunk->b.Kind≠4->False:=λc hc h9 hk=>by
   have:b.Chunk=0:=by
    have hb:=x1;unfold GB at hb
    grind
   have:=hc.1;omega
  have h1:b.Chunk<=d.Store.Next:=by
   by_cases hk:b.Kind=4
   ·rcases x3 with⟨_,x4⟩|⟨_,x4,_⟩
    ·have:=Zs h.dev.st (x4 hk).1;omega
    omega
   have hb:=x1;unfold GB at hb
   grind
  refine⟨steps,d',r',w2,by omega,h0,⟨c4,c6,?_⟩,by rw[e1,e2];rfl,by omega,by omega,v,cw,u,tt,by omega,cut⟩;rw[e1]
  rcases x3 with⟨x3,x4⟩|⟨x3,x4,x5,x6,x7⟩
  ·refine c7.mono λc hc=>?_
   grind
  exact(c10 _ x6 x5 x7).mono v1
def ACI (d d':Device) (v:Int):Prop:=∀p∈AM d'.Store,(∃p'∈AM d.Store,p'.1=p.1)\/p.1=v
theorem qJ {d':Device} (h:AM d'.Store=AM d.Store) (v:Int):ACI d d' v:=λp hp=> .inl ⟨p,by rw[<-h];exact hp,rfl⟩
structure Mo (c:BT):Prop where
 i0:0<=c.i_
 i1:c.i_<=(c.b_.length:Int)
 len:c.b_.length<=1048576
theorem ACv (a:Int):0<=ban .i64 a 255/\ban .i64 a 255<=255:=by
 unfold ban;have h:(BitVec.ofInt IntKind.i64.bits a&&&BitVec.ofInt IntKind.i64.bits 255).toNat<=255:=by
  refine JJ Nat.and_le_right ?_;exact Nat.le_of_eq rfl
 rw[OM (by omega)<|by omega];omega
theorem eA (h:Mo c):∃v c',Kq c=some (v,c')/\Mo c'/\0<=v/\v<=255:=by
 have:=h.i0;have:=h.i1;have:=h.len;unfold Kq;by_cases e:c.i_<ln c.b_
 ·rw[Ac e,Ai,Ln h.i0 (by rw[Bh]at e;exact e)];rw[Bh]at e;rw[Aa,Cy (a:=c.i_) (by omega)<|by omega];exact⟨_,_,rfl,⟨by grind,by grind,h.len⟩,ACv _⟩
 rw[Af e,Ad];exact⟨_,_,rfl,⟨h.i0,h.i1,h.len⟩,ACv _⟩
theorem AFC {a n:Int} (h0:0<=a) (hn:0<n):∃v,rm .i64 a n=some v/\0<=v/\v<n:=by
 unfold rm;rw[AO (by omega),Int.tmod_eq_emod_of_nonneg h0];exact⟨_,rfl,Int.emod_nonneg _ (by omega),Int.emod_lt_of_pos _ hn⟩
theorem Us (h:Mo c) (n:Int):∃v c',DV c n=some (v,c')/\Mo c'/\0<=v/\(0<n->v<n):=by
 unfold DV;by_cases h0:n<=0
 ·rw[Ac h0]
  grind
 by_cases h1:n<=256
 ·obtain⟨v,c',k1,k2,k3,k4⟩:=eA h;rw[k1];obtain⟨w,w1,w2,w3⟩:=AFC (n:=n) k3 (by omega)
  grind
 rw[Af h1,Ad];obtain⟨v1,c1,a1,a2,a3,a4⟩:=eA h;obtain⟨v2,c2,b1,b2,b3,b4⟩:=eA a2;obtain⟨v3,c3,d1,d2,d3,d4⟩:=eA b2;obtain⟨v4,c4,e1,e2,e3,e4⟩:=eA d2;rw[a1,Aa,b1,Aa,d1,Aa,e1,Aa,Qf (by omega) (by omega),Qf (by omega) (by omega),Qf (by omega) (by omega),Cy (a:=v1*16777216) (b:=v2*65536) (by omega) (by omega),Cy (a:=v1*16777216+v2*65536) (b:=v3*256) (by omega) (by omega),Cy (a:=v1*16777216+v2*65536+v3*256) (b:=v4) (by omega)<|by omega];obtain⟨w,w1,w2,w3⟩:=AFC (a:=v1*16777216+v2*65536+v3*256+v4) (n:=n) (by omega)<|by omega
 grind
theorem Uq (h:Mo c) (hn:0<n):∃(v:Nat) (c':BT),DV c (n:Int)=some ((v:Int),c')/\Mo c'/\v<n:=by
 obtain⟨v,c',k1,k2,k3,k4⟩:=Us h (n:Int);exact⟨v.toNat,c',by grind,k2,by omega⟩
theorem jY (h:Mo c) (hl:0<l.length):∃v c',IY c l=some (v,c')/\Mo c'/\v∈l:=by
 unfold IY;obtain⟨v,c',k1,k2,k3⟩:=Uq h hl;rw[Bh,k1,Aa,Au,Ab k3]
 grind
theorem AFf {l:List ByteArray} (h:Mo c) (hl:0<l.length):∃v c',PV c l=some (v,c')/\Mo c'/\v∈l:=by
 unfold PV;obtain⟨v,c',k1,k2,k3⟩:=Uq h hl;rw[Bh,k1,Aa,Au,Ab k3];exact⟨_,_,rfl,k2,Az k3⟩
theorem nY (h:Mo c) (n:Int):∃v c',GT c n=some (v,c')/\Mo c':=by
 unfold GT;obtain⟨v,c',k1,k2,_⟩:=Us h n;rw[k1];exact⟨_,_,rfl,k2⟩
theorem RH (h:Mo c):Mo (BT.mk c.b_ c.i_ c.h_):=h
theorem AF8 {code:List Int} (h:code.length<=1048576):∃c,Wf code=some c/\Mo c:=by
 unfold Wf;obtain⟨b,h1,_⟩:=AJ (body:=λs:Int×Int=>MD code s.1 s.2) (λ(o:Int) i=>(o,i)) code.length (λ_ _=>True) (λ_=>True)
  (λo i hi _=>by
   have hx:=Ab hi;simp only[MD,I9,Ac hi,Ai,Aa,Au,hx];rw[ad1 (i:=i)<|by omega]
   cases decide ((i:Int)<4000)with
   |true=>grind
   |false=>grind)
  (λo _=>⟨o,by simp only[MD,I9,EQ,GN,Ad,Aa],trivial⟩) (s:=ad 36501<|ln code) trivial
 rw[h1];exact⟨_,rfl,⟨Ju _,by grind,h⟩⟩
def ten:List ByteArray:=[bs [],bs [97],bs [98,98],bs [97,98,99,100,97,98,99,100,97,98,99,100],bs [104,101,108,108,111],bs [104,101,108,108,111,32,104,101,108,108,111,32,104,101,108,108,111],bs [122,122,122,122,122,122,122,122,122,122,122,122],bs [113,49],bs [113,50],bs [113,51]]
theorem AE9 (h:Mo c):∃v c',T8 c=some (v,c')/\Mo c'/\v∈ten:=by
 unfold T8;obtain⟨v,c',k1,k2,k3⟩:=AFf h (l:=ten) (by simp[ten]);have e:PV c ten=some (v,c'):=k1;unfold ten at e
 grind
structure ACK (q:Ask):Prop where
 kind:1<=q.Kind/\q.Kind<=6
 vol:1<=q.Vol/\q.Vol<=3
 rest:(q.Kind=1/\q.Text∈ten/\(0<=q.Sector/\q.Sector<=15)/\q.Of=0)\/(q.Kind≠1/\L q.Text=[]/\(((q.Kind=2\/q.Kind=6)/\(0<=q.Sector/\q.Sector<=15)/\q.Of=0)\/(q.Sector=0/\((q.Kind=4/\1<=q.Of/\q.Of<=9)\/((q.Kind=3\/q.Kind=5)/\q.Of=0)))))
theorem AFh (h:Mo c) (d:Device) (hv:d.Store.Vols.length<=3) (o:∀v∈d.Store.Vols,1<=v.Id/\v.Id<=3):∃q c',T9 c d=some (q,c')/\Mo c'/\ACK q:=by
  unfold T9;obtain⟨k,c1,a1,a2,a3⟩:=jY h (l:=[1,1,1,1,1,1,2,3,4,5,6]) (by simp);rw[a1];simp only[Aa];obtain⟨v2,c2,b1,b2,b3,b4⟩:=Us a2 3;have g:1<=k/\k<=6:=by simp at a3;omega
  have r:ad 1 v2=1+v2:=Cy (by omega) (by omega);rw[b1];simp only[Aa]
  have J1:∃x y c3,(cond ((ln d.Store.Vols)==0) (some (3,ad 1 v2,c2.b_,c2.i_,c2.h_)) ((cond (k !=3) (cond (k !=4) ((GT c2 8).bind λv3=>
 some (!v3.1,v3.2.b_,v3.2.i_,v3.2.h_))<|some (false,c2.b_,c2.i_,c2.h_)) (some (false,c2.b_,c2.i_,c2.h_)):Option (Bool×List Int×Int×Int)).bind λj2=>
 cond j2.1 ((DV (BT.mk j2.2.1 j2.2.2.1 j2.2.2.2)<|ln d.Store.Vols).bind λv4=>
 (gi d.Store.Vols v4.1).bind λx1=>
 some (k,x1.Id,v4.2.b_,v4.2.i_,v4.2.h_)) (some (k,ad 1 v2,j2.2.1,j2.2.2.1,j2.2.2.2))):Option (Int×Int×List Int×Int×Int))=some (x,y,BT.b_ c3,c3.i_,c3.h_)/\Mo c3/\(1<=x/\x<=6)/\1<=y/\y<=3:=by
   cases hz:(ln d.Store.Vols==0)with
   |true=>exact⟨_,_,c2,rfl,b2,by omega,by omega,by omega⟩
   |false=>
    have j:0<d.Store.Vols.length:=by
     rw[Sl,Bh]at hz;omega
    have J2:∃b c3,(cond (k !=3) (cond (k !=4) ((GT c2 8).bind λv3=>some (!v3.1,v3.2.b_,v3.2.i_,v3.2.h_))<|some (false,c2.b_,c2.i_,c2.h_)) (some (false,c2.b_,c2.i_,c2.h_)):Option (Bool×List Int×Int×Int))=some (b,BT.b_ c3,c3.i_,c3.h_)/\Mo c3:=by
     cases(k !=3)with
     |false=>grind
     |true=>
      cases(k !=4)with
      |false=>grind
      |true=>
       obtain⟨v3,c3,d1,d2⟩:=nY b2 8;rw[d1];exact⟨_,c3,rfl,d2⟩
    obtain⟨b,c3,e1,e2⟩:=J2;rw[e1];simp only[Aa]
    cases b with
    |false=>exact⟨_,_,c3,rfl,e2,g,by omega,by omega⟩
    |true=>
     obtain⟨v4,c4,f1,f2,f3⟩:=Uq (RH e2) j;rw[Bh,f1,Aa,Au,Ab f3];exact⟨_,_,c4,rfl,f2,g,o _<|Az f3⟩
  obtain⟨x,y,c3,j1,j1c,jx,jy⟩:=J1;rw[j1];simp only[Aa];have J3:∃b c4,(cond (x==5) ((GT (BT.mk c3.b_ c3.i_ c3.h_) 3).bind λv8=>some (!v8.1,v8.2.b_,v8.2.i_,v8.2.h_)) (some (false,c3.b_,c3.i_,c3.h_)):Option (Bool×List Int×Int×Int))=some (b,BT.b_ c4,c4.i_,c4.h_)/\Mo c4:=by
   cases(x==5)with
   |false=>grind
   |true=>
    obtain⟨v8,c4,d1,d2⟩:=nY (RH j1c) 3;rw[d1];exact⟨_,c4,rfl,d2⟩
  obtain⟨b,c4,j3,j3c⟩:=J3;rw[j3];simp only[Aa,JH];have a:1<=(bif b then(1:Int)else x)/\(bif b then(1:Int)else x)<=6:=by grind
  generalize (bif b then(1:Int)else x)=j4 at a
  cases m:(j4==1)with
  |true=>
   obtain⟨t,c5,t1,t2,t3⟩:=AE9<|RH j3c;rw[t1];simp only[Aa];obtain⟨v10,c6,u1,u2,u3,u4⟩:=Us t2 16;rw[u1];have hj:=CK.1 m;exact⟨_,_,rfl,u2,⟨a,jy,.inl ⟨hj,t3,by grind,rfl⟩⟩⟩
  |false=>
   have e:j4≠1:=by simpa using m
   have p:(cond (j4==2) (j4==2)<|j4==6)=decide (j4=2\/j4=6):=by grind
   rw[p];by_cases f:j4=2\/j4=6
   ·rw[Ac f];obtain⟨v11,c6,u1,u2,u3,u4⟩:=Us (RH j3c) 16;rw[u1];exact⟨_,_,rfl,u2,⟨a,jy,.inr ⟨e,El _,.inl ⟨f,by grind,rfl⟩⟩⟩⟩
   rw[Af f]
   cases n:(j4==4)with
   |true=>
    obtain⟨v12,c6,u1,u2,u3,u4⟩:=Us (RH j3c) 3;have h44:=CK.1 n;rw[u1]
    cases s:d.Store.Vols with
    |nil=>
     exact⟨_,_,rfl,u2,⟨a,jy,.inr ⟨e,El _,.inr ⟨rfl,.inl ⟨h44,by show 1<=ad 1 v12/\ad 1 v12<=9;rw[Cy];omega⟩⟩⟩⟩⟩
    |cons v vs=>
     rw[Ac (by rw[Bh,AA];omega:ln (v::vs)>0),show gi (v::vs) 0=some v from Au (i:=0)];exact⟨_,_,rfl,u2,⟨a,jy,.inr ⟨e,El _,.inr ⟨rfl,.inl ⟨h44,by grind⟩⟩⟩⟩⟩
   |false=>
    exact⟨_,_,rfl,RH j3c,⟨a,jy,.inr ⟨e,El _,.inr ⟨rfl,.inr ⟨by grind,rfl⟩⟩⟩⟩⟩
theorem dL (h:3<=n/\n<=10):Bx (Flash.mk (List.replicate n (Block.mk false 0 HY))):=by
 refine⟨by simpa using h,λb hb=>?_⟩;rw[Dr hb];exact rV ⟨by omega,by omega⟩
theorem QO (h:3<=n/\n<=10):Hy (n:Int)=some (Flash.mk (List.replicate n (Block.mk false 0 HY)),true):=by
 unfold Hy;rw[Di,Ac<|by omega];simp only[Aa,An,Ad];have q:=bJ (body:=λs:Int×List Block=>DQ (n:Int) s.1 s.2) n (λ_=>Block.mk false 0 HY)
  (λi a hi ho=>by
   simp only[DQ]
   rw[cT,Qg,Aa,Bi (by simp;omega),Aa,ad1])
  (λa=>by simp only[DQ];rw[cF])
 rw[q,Aa,Nx,Dy]
theorem iJ:∀(n:Nat) (i:Int),KS i (List.replicate n (Block.mk false 0 HY))=[]
 |0,i=>rfl
 |n+1,i=>by
  rw[List.replicate_succ,KS,iJ n (i+1),Wz i 0 _ (λy hy=>by rw[Dr hy];simp)];rfl
theorem YQ (h:3<=n/\n<=10):∃d,I3 (n:Int)=some (d,true)/\JO d []/\AM d.Store=[]/\d.Store.Next=1/\d.Flash=Flash.mk (List.replicate n (Block.mk false 0 HY)):=by
 have hP:=dL h;have b:SR (KS 0 (Flash.mk<|List.replicate n<|Block.mk false 0 HY).Blocks) []:=by
  rw[iJ];exact⟨List.Pairwise.nil,λ_=>rfl⟩
 obtain⟨d,u1,u2,u3⟩:=Ni hP b;have a:=u2.ab;have:O6 (CO<|Be [])=([],1):=rfl;rw[this]at a
 injection a with e1 e2
 refine⟨d,?_,⟨u2,⟨⟨by simp,by simp,by simp,by simp,by simp,by simp⟩,List.Pairwise.nil,⟨λy hy=>by cases hy⟩⟩,?_⟩,e1,e2,u3⟩
 ·unfold I3;rw[QO h]
  grind
 rw[e1];refine⟨λc hc=>?_,λc c' hc=>?_⟩
 ·obtain⟨_,p,hp,_⟩:=hc;cases hp
 obtain⟨_,p,hp,_⟩:=hc;cases hp
theorem ACK.text (h:ACK q):q.Text∈ten:=by
 rcases h.rest with⟨_,h2,_⟩|⟨_,h2,_⟩
 ·exact h2
 rw[show q.Text=bs []from JM (by rw[h2,El])];simp[ten]
def UY (a:List Shelf):Prop:=a.length<=1048576/\∀x∈a,x.Texts.length<=1048576
theorem jX (d:Device) (h:fZ d.Flash r) (hs:JW d.Store<=1048576) (id:Int) (k:Nat) (hk:k<16):∃u ok,Fw r d.Store id (k:Int)=some (u,ok)/\Qq d id (k:Int)=some (u,ok):=by
 unfold JW Z9 at hs;have hl:=Sm (z:=VE) (l:=d.Store.Arena.Knots);have ha:RK d.Store.Arena:=by unfold RK;omega
 unfold Fw Qq;obtain⟨v,h1,h2,h3⟩:=VH d.Store id (by omega);rw[h1,h2];simp only[Aa]
 cases decide (v<0)with
 |true=>grind
 |false=>
  obtain⟨c,c1,c2⟩:=vY d.Store (by omega) ha id k hk;rw[c1,c2];simp only[Aa]
  cases c==0 with
  |true=>grind
  |false=>
   obtain⟨u,ok,t1,t2⟩:=WZ h c
   grind
theorem XT (d:Device) (hz:Nz d<=1048576):∃m,EX d=some m/\HH d=some m:=by
 unfold Nz at hz;obtain⟨r,hr⟩:=nU d.Flash (by omega);have hs:JW d.Store<=1048576:=by omega
 have hv:d.Store.Vols.length<=1048576:=by unfold JW at hs;omega
 unfold EX HH;rw[hr.s];obtain⟨m,h1,h2,_⟩:=MT (body:=λs:List Shelf×Int=>Dg d r s.1 s.2) (body':=λs:List Shelf×Int=>FG d s.1 s.2) (λ(o:List Shelf) i=>(o,i)) (λ(o:List Shelf) i=>(o,i)) d.Store.Vols.length (λi o=>o.length=i) (λ_=>True)
  (λo i hi ho=>by
   have hg:d.Store.Vols[i]?=some d.Store.Vols[i]:=Ab hi;simp only[Dg,FG,I9,Ac hi,Ai,Au,hg,Aa];obtain⟨l,q1,q2,q3⟩:=MT (body:=λs:Int×List ByteArray=>Et d r d.Store.Vols[i] s.1 s.2) (body':=λs:Int×List ByteArray=>H8 d d.Store.Vols[i] s.1 s.2) (λ(o:List ByteArray) k=>(k,o)) (λ(o:List ByteArray) k=>(k,o)) 16 (λk o=>o.length=k) (λ_=>True)
    (λu k hk hu=>by
     obtain⟨t,ok,g1,g2⟩:=jX d hr hs d.Store.Vols[i].Id k hk;simp only[Et,H8];rw[Ac (by omega:(k:Int)<16),Ai,Ai,g1,g2,Aa,Bi (by grind),ad1]
     exact .inl ⟨_,rfl,rfl,by grind⟩)
    (λu hu=>⟨u,by rfl,by rfl,trivial⟩) (s:=[]) rfl
   rw[q1,q2,Aa,Bi (by grind),ad1]
   grind)
  (λo ho=>⟨o,by simp only[Dg,I9,EQ,GN,Ad],by simp only[FG,I9,EQ,GN,Ad],trivial⟩) (s:=[]) rfl
 grind
theorem AAI (h:C5 s):JW s<=1048576:=by
 have h1:=h.len;have h2:=h.small;have a:∀l:List Bs,(∀k∈l,k.Kids.length=4)->(l.map VE).sum=4*l.length:=by
  intro l
  induction l with
  |nil=>intro _;rfl
  |cons k l ih=>
   intro hl;rw[CL,Nu,ih (λx hx=>hl x<|by simp[hx]),AA];have:=hl k (by simp);unfold VE;omega
 have:=a s.Arena.Knots (λk hk=>by
  obtain⟨i,hi,rfl⟩:=A4 hk;have:=(GH.1 h.ar i hi).1;rw[O8 hi]at this
  exact this)
 unfold JW Z9 zl;omega
theorem uJ (h:JO d r) (vol:Int) (hk:k<16):Qq d vol (k:Int)=Fw r d.Store vol (k:Int):=by
 obtain⟨u,ok,h1,h2⟩:=jX d h.dev.scan (AAI h.dev.st) vol k hk;rw[h1,h2]
theorem ACY:∀t∈ten,(L t).length<=64:=by
 intro t ht;unfold ten at ht;simp only[DI,List.not_mem_nil,or_false]at ht
 rcases ht with rfl|rfl|rfl|rfl|rfl|rfl|rfl|rfl|rfl|rfl<;>rw[El]<;>decide
theorem AD7 (h:ACK q):Hz q=some true:=by
 obtain⟨h1,h2,h3⟩:=h;have hl:(L q.Text).length<=64:=ACY _<|ACK.text ⟨h1,h2,h3⟩;unfold Hz;rw[Di,Di,B5,Ac h1,Ac (by omega:1<=q.Vol/\q.Vol<=9),Af (by omega:¬((L q.Text).length:Int)>64)]
 rcases h3 with⟨k1,_,k3,k4⟩|⟨k1,k2,k3⟩
 ·rw[k1,k4];simp only[show((1:Int) !=1)=false from rfl,Ad,Aa,show((1:Int)==4)=false from rfl,show((0:Int) !=0)=false from rfl,show((1:Int)==3)=false from rfl,show((1:Int)==5)=false from rfl];rw[Di,Ac k3];rfl
 have a:seq q.Text (bs [])=true:=by rw[JZ,A5];exact JM<|by rw[k2,El]
 rw[show(q.Kind !=1)=true by simpa using k1,a]
 rcases k3 with⟨e|e,k4,k5⟩|⟨k4,⟨e,k5⟩|⟨e|e,k5⟩⟩
 ·have hs:BA q.Sector 0 15=some true:=by rw[Di,Ac k4]
  rw[e,k5,hs];rfl
 ·have hs:BA q.Sector 0 15=some true:=by rw[Di,Ac k4]
  rw[e,k5,hs];rfl
 ·have hs:BA q.Of 1 9=some true:=by rw[Di,Ac k5]
  rw[e,k4,hs];rfl
 ·rw[e,k4,k5];rfl
 rw[e,k4,k5];rfl
theorem cA (h:C5 s) {live:List Int} (hl:FC s=some live):Lk s=some live:=by
 obtain⟨l,e1,e2,_,_⟩:=XU s (by have:=h.len;omega)<|nJ h
 grind
theorem sH (h:He d r) {live:List Int} (hl:FC d.Store=some live) (l2:asc live) (l4:live.length<=16777216) (a b:Int):aH d.Flash d.Store a b=some ((cn r.length (λj=>(C8 r live a)[j]?.getD false&&bk r b j):Nat):Int)/\H7 d.Flash d.Store a b=some ((cn r.length (λj=>(C8 r live a)[j]?.getD false&&bk r b j):Nat):Int):=by
 obtain⟨n,n1,n2⟩:=YO h.scan d.Store (cA h.st hl) l2 l4 a b;have c:=aW r (C8 r live a) b h.scan.len<|Kx _ _ _;have e:C8 r live a=live.foldl (fC r) (r.map<|DA a):=rfl;rw[e]at c;rw[n1]at c;unfold aH;rw[h.scan.s,hl];simp only[Aa];rw[NA r live _ h.scan.len l4]
 grind
theorem ADI (h:He d r) (hy:y∈r):J7 y.Page:=by
 obtain⟨b,x,g1,g2,_,g3⟩:=h.scan.page y hy;obtain⟨_,k1⟩:=Cv g1;obtain⟨_,k2⟩:=Cv g2;have hx:=h.fl.text b (Ar k1) x<|Ar k2;obtain⟨p,ok,m1,_,_,m2⟩:=IT x.Text (by omega);rw[g3]at m1
 injection m1 with m1
 obtain⟨v,q1,q2⟩:=Vd p
 grind
theorem AGl (hc:Kh g) (ss:List AL) (hs:ss.length<=1000) (p:Page) (b:Int):
  (∃s g',DM g ss p=some (g',ss++ [s],true)/\Kh g'/\CP (Gl.mk g ss) p b=some (if(s.Block==b)=true then(false,Gl.mk g ss)else(true,Gl.mk g' (ss++ [s]))))\/
  (∃g' st,DM g ss p=some (g',st,false)/\∃w,CP (Gl.mk g ss) p b=some (false,w)):=by
 obtain⟨t,ok,t1,t2⟩:=YL p;obtain⟨bb,l,room,p1,p2,p3⟩:=dX g hc;unfold DM CP;rw[t1,t2,p1,p2]
 cases ok with
 |false=>simp
 |true=>
  cases room with
  |false=>simp
  |true=>
   obtain⟨g2,v,g1,g3,g4⟩:=Up g (AL.mk 1 bb l t) hc;have a:Kh g2:=by
    rcases g4 with⟨_,rfl⟩|⟨_,g4⟩
    ·exact hc
    exact g4.cap
   simp only[An,Ad,Aa,g1,g3];rw[Bi<|by grind]
   cases v with
   |true=>
    refine .inl ⟨AL.mk 1 bb l t,g2,rfl,a,?_⟩
    cases hb:(bb==b)with
    |true=>rfl
    |false=>rfl
   |false=>
    refine .inr ⟨g2,_,rfl,?_⟩
    cases hb:(bb==b)with
    |true=>grind
    |false=>simp
abbrev MvS:=Int×List AL×List Block
def fB (sq:Int) (y:Ap):Page:=Page.mk 1 sq y.Page.Tx 0 1 y.Page.Text
noncomputable def mv (b:Int):List Ap->MvS->Option (Option MvS)
 |[],o=>some (some o)
 |y::ys,o=>(DM (Flash.mk o.2.2) o.2.1 (fB o.1 y)).bind λv=>if v.2.2=true then(match v.2.1.getLast? with
  |some s=>if(s.Block==b)=true then some none else mv b ys (o.1+1,v.2.1,v.1.Blocks)
  |none=>some none)else some none
theorem ABM (b:Int):∀(xs ys:List Ap) (o:MvS),mv b (xs++ys) o=(mv b xs o).bind λq=>match q with
  |some o'=>mv b ys o'
  |none=>some none
 |[],ys,o=>rfl
 |x::xs,ys,o=>by
  simp only[BI,mv]
  cases DM (Flash.mk o.2.2) o.2.1 (fB o.1 x)with
  |none=>rfl
  |some v=>
   simp only[Aa];split
   ·split
    ·split
     ·rfl
     exact ABM b xs ys _
    rfl
   rfl
def MvI (m:Nat) (o:MvS):Prop:=Kh (Flash.mk o.2.2)/\o.2.1.length<=m/\0<=o.1/\o.1<=1000000001+m
theorem uB {b:Int} {o:MvS} (h:MvI m o) (hm:m<=1000):
  (∃s g',DM (Flash.mk o.2.2) o.2.1 (fB o.1 y)=some (g',o.2.1++ [s],true)/\(s.Block==b)=false/\(∀ys,mv b (y::ys) o=mv b ys (o.1+1,o.2.1++ [s],g'.Blocks))/\MvI (m+1) (o.1+1,o.2.1++ [s],g'.Blocks)/\CP (Gl.mk (Flash.mk o.2.2) o.2.1) (fB o.1 y) b=some (true,Gl.mk g' (o.2.1++ [s])))\/
  ((∀ys,mv b (y::ys) o=some none)/\(∃w,CP (Gl.mk (Flash.mk o.2.2) o.2.1) (fB o.1 y) b=some (false,w))/\((∃s g',DM (Flash.mk o.2.2) o.2.1 (fB o.1 y)=some (g',o.2.1++ [s],true)/\(s.Block==b)=true)\/∃g' st,DM (Flash.mk o.2.2) o.2.1 (fB o.1 y)=some (g',st,false))):=by
 obtain⟨h1,h2,h3,h4⟩:=h
 rcases AGl h1 o.2.1 (by omega) (fB o.1 y) b with⟨s,g',a1,a2,a3⟩|⟨g',st,a1,w,a2⟩
 ·cases hb:(s.Block==b)with
  |true=>
   rw[hb]at a3;exact .inr ⟨λys=>by simp only[mv,a1,Aa,Ch,List.getLast?_concat,hb],⟨_,a3⟩,.inl ⟨s,g',a1,hb⟩⟩
  |false=>
   rw[hb]at a3;refine .inl ⟨s,g',a1,hb,λys=>by simp only[mv,a1,Aa,Ch,List.getLast?_concat,hb,Er,Ke],⟨a2,?_,?_,?_⟩,by rw[a3];rfl⟩
   ·grind
   ·omega
   omega
 exact .inr ⟨λys=>by simp[mv,a1],⟨w,a2⟩,.inr ⟨g',st,a1⟩⟩
theorem ABL {b:Int}:∀(xs:List Ap) {m:Nat} {o:MvS},MvI m o->m+xs.length<=1000->∃v,mv b xs o=some v/\∀o',v=some o'->MvI (m+xs.length) o'
 |[],m,o,h,_=>⟨some o,rfl,λo' e=>by grind⟩
 |x::xs,m,o,h,hm=>by
  rw[AA]at hm
  rcases uB (b:=b) (y:=x) h (by omega)with⟨s,g',a1,a2,a3,a4,a5⟩|⟨a1,_⟩
  ·obtain⟨v,v1,v2⟩:=ABL xs a4 (by omega);exact⟨v,by rw[a3,v1],λo' e=>by grind⟩
  exact⟨none,a1 xs,λo' e=>by cases e⟩
def LD (b i:Int) (nd:List Bool) (r:List Ap):List Ap:=((nd.zip r).filter λq=>q.1&&(q.2.Block==b)&&(q.2.Leaf==i)).map Prod.snd
theorem wM (hr:r.length<=40) (hk:∀y∈r,y.Page.Kind=1->y.Page.Count=1/\y.Page.Part=0) (d:nd.length=r.length) (hn:∀(j:Nat) y,r[j]?=some y->nd[j]?=some true->y.Page.Kind=1) (b i:Int):∀(n j:Nat),j+n=r.length->∀{m:Nat} {o:MvS},MvI m o->m+n<=1000->
  Al (λs:List AL×Int×Int×List Block=>EL b r nd i s.1 s.2.1 s.2.2.1 s.2.2.2) (o.2.1,o.1,(j:Int),o.2.2)=(mv b (LD b i (nd.drop j) (r.drop j)) o).map λq=>match q with
   |some o'=> .inl (o'.2.1,o'.1,o'.2.2)
   |none=> .inr (.inr (.inr ([],false)))
 |0,j,hj,m,o,ho,hm=>by
  rw[Ax];simp only[EL,I9];rw[cF,List.drop_of_length_le (by omega),List.drop_of_length_le (by omega)];rfl
 |n+1,j,hj,m,o,ho,hm=>by
  have a:j<r.length:=by omega
  have hx:=Ab a;have c:=Ab (show j<nd.length by omega);have hd:nd.drop j=nd[j]::nd.drop (j+1):=AE (by omega);have e:r.drop j=r[j]::r.drop (j+1):=AE a
  have go:∀{m':Nat} {o':MvS},MvI m' o'->m'+n<=1000->_:=λ{m' o'} h1 h2=>wM hr hk d hn b i n (j+1) (by omega) (m:=m') (o:=o') h1 h2
  rw[Ax];simp only[EL,DK a,Au,hx,c,Aa];rw[ad1,hd,e];have es:LD b i (nd[j]::nd.drop (j+1)) (r[j]::r.drop (j+1))=if(nd[j]&&(r[j].Block==b)&&(r[j].Leaf==i))=true then r[j]::LD b i (nd.drop<|j+1) (r.drop<|j+1)else LD b i (nd.drop<|j+1) (r.drop<|j+1):=by
   simp only[LD,List.zip_cons_cons,List.filter_cons];split<;>simp
  rw[es]
  cases f:nd[j]with
  |false=>
   exact go ho<|by omega
  |true=>
   cases hb:(r[j].Block==b)with
   |false=>
    simp only[bne,hb,Cj,Ai,Aa,Bool.false_and,Er,Ke];exact go ho<|by omega
   |true=>
    simp only[bne,hb,An,Ad,Aa,QA]
    cases g:(r[j].Leaf==i)with
    |false=>
     exact go ho<|by omega
    |true=>
     simp only[An,Ad,Ch];have h1:=hn j r[j] hx (by rw[c,f]);obtain⟨h2,h3⟩:=hk r[j] (Az a) h1;have ep:Page.mk r[j].Page.Kind o.1 r[j].Page.Tx r[j].Page.Part r[j].Page.Count r[j].Page.Text=fB o.1 r[j]:=by rw[h1,h2,h3];rfl
     rw[ep];obtain⟨c1,c2,c3,c4⟩:=ho
     rcases uB (b:=b) (y:=r[j]) ⟨c1,c2,c3,c4⟩ (by omega)with⟨s,g',a1,a2,a3,a4,_⟩|⟨a1,_,⟨s,g',a2,a3⟩|⟨g',st,a2⟩⟩
     ·rw[a1,a3];simp only[Aa,An,Ad];rw[Bh,Ak,B7,Co,show((o.2.1.length+1:Nat):Int)-1=(o.2.1.length:Int) by omega,Fs];simp only[Aa,a2,Ad];rw[Cy];exact go a4<|by omega
     ·rw[a2,a1];simp only[Aa,An,Ad];rw[Bh,Ak,B7,Co,show((o.2.1.length+1:Nat):Int)-1=(o.2.1.length:Int) by omega,Fs]
      grind
     grind
theorem ZB (k:IntKind) (n:Nat) (h:n<=12) (hk:k= .u8\/k= .u64):k.wrap (n:Int)=(n:Int):=by
 have:n=0\/n=1\/n=2\/n=3\/n=4\/n=5\/n=6\/n=7\/n=8\/n=9\/n=10\/n=11\/n=12:=by omega
 rcases hk with rfl|rfl<;>rcases this with rfl|rfl|rfl|rfl|rfl|rfl|rfl|rfl|rfl|rfl|rfl|rfl|rfl<;>rfl
set_option maxRecDepth 20000 in
theorem fW (n:Nat) (h:n<=12):∃v,X1 (IntKind.u64.wrap (n:Int))=some v:=by
 rw[ZB _ n h<|.inr rfl];unfold X1 bH;generalize hT:(bs _)=T;have a:13<=(L T).length:=by rw[<-hT,El];decide
 rw[cF,Aa,cF,Aa,cF,Aa,ZB _ n h<|.inl rfl,Fd (i:=n) _<|by omega];exact⟨_,rfl⟩
theorem gV {γ:Type} (a:γ->Int) (l:List γ) (hl:l.length<=12):∃r,LB (NW a) l=some r/\srt a r/\BV a l r:=by
 obtain⟨v,hv⟩:=fW l.length hl;obtain⟨r,h1,h2,h3⟩:=Ji a [] l [] (by simp;omega);unfold LB;rw[Bh,hv];unfold ET;rw[Ax];simp only[Gn];rw[Co,cT]
 grind
def nI (l:List Ap):Prop:=l.Pairwise λx y=>x.Page.Tx≠y.Page.Tx
theorem cQ {l:List Ap} {p:Ap->Bool} (hl:nI l) (hu:∀x∈l,∀y∈l,p x=true->p y=true->x=y) (hy:y∈l) (hp:p y=true):l.filter p=[y]:=by
 induction l with
 |nil=>cases hy
 |cons x l ih=>
  have h1:=C0.1 hl
  have hu':∀a∈l,∀c∈l,p a=true->p c=true->a=c:=λa ha c hc=>hu a (Lz _ ha) c<|Lz _ hc
  cases hx:p x with
  |true=>
   have e:x=y:=hu x (by simp) y hy hx hp;subst e;rw[Ev hx,Bq.2]
   grind
  |false=>
   rw[Ew<|by simp[hx]]
   rcases DI.1 hy with rfl|hy
   ·grind
   exact ih h1.2 hu' hy
theorem AA7 {c:List Ap} (ha:nI a) (hc:nI c) (hm:∀y,y∈a↔y∈c) (hu:∀x∈a,∀y∈a,x.Leaf=y.Leaf->x=y):BV BE a c:=by
 intro k
 have e1:∀x,(BE x==k)=true↔x.Leaf=k:=λx=>by rw[CK];rfl
 by_cases h:∃y∈a,y.Leaf=k
 ·obtain⟨y,y1,y2⟩:=h
  rw[cQ ha (λx hx z hz p q=>hu x hx z hz<|by grind) y1<|(e1 y).2 y2,
   cQ hc (λx hx z hz p q=>hu x ((hm x).2 hx) z ((hm z).2 hz)<|by grind) ((hm y).1 y1) ((e1 y).2 y2)]
 rw[Bq.2 λx hx p=>h ⟨x,hx,(e1 x).1 p⟩,Bq.2 λx hx p=>h ⟨x,(hm x).2 hx,(e1 x).1 p⟩]
def Ia (r:List Ap) (b:Int) (live:List Int):List Ap:=live.filterMap λc=>match PS c r r.length with
 |some j=>if bk r b j=true then r[j]? else none
 |none=>none
theorem Xk (r:List Ap) (b:Int) (a:List Int) (c:Int):Ia r b (a++ [c])=Ia r b a++Ia r b [c]:=by unfold Ia;grind
theorem AC2 (h:fZ f r) {live:List Int} (a:Lk s=some live) (hl:live.length<=16777216) (b:Int):TM f s b=some (Ia r b live):=by
 unfold TM;rw[a];simp only[Aa];obtain⟨u,h1,h2⟩:=AJ (body:=λq:List Ap×Int=>H4 f b live q.1 q.2) (λ(u:List Ap) i=>(u,i)) live.length (λi u=>u=Ia r b (live.take i)) (λu=>u=Ia r b live)
  (λu i hi hu=>by
   have hg:live[i]?=some live[i]:=Ab hi;obtain⟨o,o1,o2⟩:=XJ f r h.i h.len h.srt live[i];have ho:o=PS live[i] r r.length:=X5 o2<|PR _ _ _<|Ay _;have d:u.length<=i:=by
    rw[hu];have:=List.length_filterMap_le (λc=>match PS c r r.length with|some j=>if bk r b j=true then r[j]? else none|none=>none)<|live.take i;rw[B4]at this;unfold Ia;omega
   have et:live.take (i+1)=live.take i++ [live[i]]:=by simp
   refine .inl ?_;simp only[H4,DK hi,Au,hg,Aa,o1]
   cases ht:PS live[i] r r.length with
   |none=>
    rw[ht]at ho;subst ho;rw[ad1];rw[et,Xk,<-hu];simp[Ia,ht]
   |some j=>
    rw[ht]at ho;subst ho;obtain⟨hj,_⟩:=Og (Ay _) ht;have hr:=Ab hj;simp only[Option.isSome_some,Ai,Aa,Lo]
    cases hb:bk r b j with
    |true=>
     have hb':((r[j]?.getD PH).Block==b)=true:=hb;rw[hb'];rw[Bi (by grind),ad1];rw[et,Xk,<-hu];simp[Ia,ht,hb,hr]
    |false=>
     have hb':((r[j]?.getD PH).Block==b)=false:=hb;rw[hb'];rw[ad1];rw[et,Xk,<-hu]
     simp[Ia,ht,hb])
  (λu hu=>⟨u,by simp only[H4,D1],by grind⟩) (s:=[]) (by simp[Ia])
 rw[h1,h2];rfl
theorem T3 {b:Int} {live:List Int} (hy:y∈Ia r b live):∃c∈live,∃j,PS c r r.length=some j/\r[j]?=some y/\y.Block=b/\y.Page.Kind=1/\y.Page.Tx=c:=by
 obtain⟨c,c1,c2⟩:=List.mem_filterMap.1 hy
 cases ht:PS c r r.length with
 |none=>grind
 |some j=>
  rw[ht]at c2;simp only at c2;split at c2
  ·rename_i hb;obtain⟨_,z,z1,z2⟩:=Og (Ay _) ht;rw[z1]at c2
   injection c2 with c2
   subst c2;simp only[bk,z1,Bc,CK]at hb;simp only[Jh,Ag,CK]at z2
   grind
  cases c2
theorem gT (r:List Ap) (b:Int):∀{live:List Int},live.Nodup->nI (Ia r b live)
 |[],_=>List.Pairwise.nil
 |c::live,h=>by
  obtain⟨h1,h2⟩:=CT.1 h;have ih:=gT r b h2;unfold Ia;rw[List.filterMap_cons];split
  ·exact ih
  rename_i y hy;refine C0.2 ⟨λz hz e=>?_,ih⟩;obtain⟨c',q1,j,q2,q3,q4,q5,q6⟩:=T3 (r:=r) (b:=b) (live:=live) hz
  obtain⟨c'',p1,j2,p2,p3,p4,p5,p6⟩:=T3 (r:=r) (b:=b) (live:=[c]) (y:=y) (by
   unfold Ia
   grind)
  grind
def PU (b:Int) (nd:List Bool) (r:List Ap):List Ap:=LD b 0 nd r++(LD b 1 nd r++(LD b 2 nd r++LD b 3 nd r))
theorem VY {b i:Int}:y∈LD b i nd r↔(∃j:Nat,r[j]?=some y/\nd[j]?=some true)/\y.Block=b/\y.Leaf=i:=by
 unfold LD;simp only[A6,AX,Ag,CK];constructor
 ·rintro⟨⟨n,z⟩,⟨h1,⟨h2,h3⟩,h4⟩,rfl⟩;obtain⟨j,hj⟩:=List.getElem?_of_mem h1;rw[List.getElem?_zip_eq_some]at hj
  grind
 rintro⟨⟨j,h1,h2⟩,h3,h4⟩;exact⟨(true,y),⟨Ar<|List.getElem?_zip_eq_some.2 ⟨h2,h1⟩,⟨rfl,h3⟩,h4⟩,rfl⟩
theorem oU (hn:∀(j:Nat) y,r[j]?=some y->nd[j]?=some true->PS y.Page.Tx r r.length=some j) (b i:Int):nI (LD b i nd r):=by
 unfold LD nI;rw[K8]
 have h0:(nd.zip r).Pairwise λp q=>p.1=true->q.1=true->p.2.Page.Tx≠q.2.Page.Tx:=by
  rw[CF];intro x y hx hy a p q e;have a1:=(List.getElem?_zip_eq_some (l₁:=nd) (l₂:=r)).1<|Ab hx;have a2:=(List.getElem?_zip_eq_some (l₁:=nd) (l₂:=r)).1<|Ab hy
  grind
 have h1:=h0.filter λq=>q.1&&(q.2.Block==b)&&(q.2.Leaf==i)
 grind
def zC (b:Int) (nd:List Bool) (r:List Ap):Nat->Nat->List Ap
 |0,_=>[]
 |n+1,i=>LD b (i:Int) nd r++zC b nd r n (i+1)
theorem AA5 (b i:Int) (nd:List Bool) (r:List Ap):(LD b i nd r).length<=r.length:=by
 unfold LD
 grind
theorem wL (hr:r.length<=40) (hk:∀y∈r,y.Page.Kind=1->y.Page.Count=1/\y.Page.Part=0) (c:nd.length=r.length) (hn:∀(j:Nat) y,r[j]?=some y->nd[j]?=some true->y.Page.Kind=1) (b:Int):∀(n i:Nat),i+n=4->∀{m:Nat} {o:MvS},MvI m o->m+n*40<=1000->
  Al (λs:List AL×Int×Int×List Block=>FB b r nd s.1 s.2.1 s.2.2.1 s.2.2.2) (o.2.1,o.1,(i:Int),o.2.2)=(mv b (zC b nd r n i) o).map λq=>match q with
   |some o'=> .inl o'.2.1
   |none=> .inr ([],false)
 |0,i,hi,m,o,ho,hm=>by
  rw[Ax];simp only[FB];rw[cF];rfl
 |n+1,i,hi,m,o,ho,hm=>by
  rw[Ax];simp only[FB];rw[cT];have a:=wM hr hk c hn b (i:Int) r.length 0 (by omega) ho (by omega);simp only[List.drop_zero]at a;rw[show((0:Nat):Int)=0 from rfl]at a;rw[a];have d:=AA5 b (i:Int) nd r;obtain⟨v,v1,v2⟩:=ABL (b:=b) (LD b (i:Int) nd r) ho (by omega);have es:zC b nd r (n+1) i=LD b (i:Int) nd r++zC b nd r n (i+1):=rfl;rw[es,ABM,v1]
  cases v with
  |none=>rfl
  |some o'=>
   rw[ad1];exact wL hr hk c hn b n (i+1) (by omega) (v2 o' rfl)<|by omega
theorem yJ (d:Device) (b:Int) (X:List Ap) (hX:X.length<=100) (hd:0<=d.Seq/\d.Seq<=1000000001):∀(n i:Nat),i+n=X.length->∀{m:Nat} {o:MvS},MvI m o->m+n<=1000->o.1=d.Seq+i->
  Al (λs:Int×List Block×List AL=>IN d b X s.1 s.2.1 s.2.2) ((i:Int),o.2.2,o.2.1)=(mv b (X.drop i) o).map λq=>match q with
   |some o'=> .inl (o'.2.2,o'.2.1)
   |none=> .inr ([],false)
 |0,i,hi,m,o,ho,hm,hs=>by
  rw[Ax];simp only[IN,I9];rw[cF,List.drop_of_length_le (by omega)];rfl
 |n+1,i,hi,m,o,ho,hm,hs=>by
  have a:i<X.length:=by omega
  have hx:=Ab a;rw[Ax];simp only[IN,DK a,Au,hx,Aa];rw[Cy,<-hs,AE a];have ep:Page.mk 1 o.1 X[i].Page.Tx 0 1 X[i].Page.Text=fB o.1 X[i]:=rfl;rw[ep]
  rcases uB (b:=b) (y:=X[i]) ho (by omega)with⟨s,g',a1,a2,a3,a4,a5⟩|⟨a1,⟨w,a2⟩,_⟩
  ·rw[a5,a3];rw[ad1];exact yJ d b X hX hd n (i+1) (by omega) a4 (by omega)<|by omega
  grind
theorem iI {x:Ap} (h:He d r) (hx:x∈r) (hy:y∈r) (hb:x.Block=y.Block) (hl:x.Leaf=y.Leaf):x=y:=by
 obtain⟨b,l,g1,g2,_,g3⟩:=h.scan.page x hx;obtain⟨b',l',k1,k2,_,k3⟩:=h.scan.page y hy;rw[hb,k1]at g1
 injection g1 with g1
 subst g1;rw[hl,k2]at g2
 injection g2 with g2
 subst g2;rw[k3]at g3
 injection g3 with g3
 cases x;cases y
 grind
theorem zW (h:He d r) (hy:y∈r):0<=y.Leaf/\y.Leaf<4:=by
 obtain⟨b,l,g1,g2,_,g3⟩:=h.scan.page y hy;obtain⟨_,k1⟩:=Cv g1;obtain⟨q0,k2⟩:=Cv g2;have:=(h.fl.blk b<|Ar k1).four
 grind
theorem dY (h:He d r) (m:r.length<=40) {live:List Int} (l1:FC d.Store=some live) (l2:asc live) (l3:∀x,x∈live↔DG (AM d.Store) x) (l4:live.length<=16777216) (b:Int):
  ∃v,mv b (PU b (C8 r live 1000000001) r) (d.Seq,[],d.Flash.Blocks)=some v/\Hp d b=some (match v with|some o=>(o.2.1,true)|none=>([],false))/\Na d b=some (match v with|some o=>(o.2.1,true)|none=>([],false))/\
  (PU b (C8 r live 1000000001) r).length=(Ia r b live).length/\(PU b (C8 r live 1000000001) r).length<=4/\∀y,y∈PU b (C8 r live 1000000001) r↔y∈Ia r b live:=by
 have n:=h.pages;have w:1<=d.Seq/\d.Seq<=1000000001:=by
  rw[h.seq];have h1:=Om r;refine⟨h1.2.1,h1.2.2 _ (by omega) λy hy=>?_⟩;have:=(n.seq y hy).2;omega
 have hk:∀y∈r,y.Page.Kind=1->y.Page.Count=1/\y.Page.Part=0:=by
  intro y hy k1;obtain⟨_,_,_,c1,c2,_,c3⟩:=ADI h hy;omega
 have hn:∀(j:Nat) y,r[j]?=some y->(C8 r live 1000000001)[j]?=some true->y.Page.Kind=1:=λj y hy hj=>(bC h l3 hy hj).1
 have f:∀(j:Nat) y,r[j]?=some y->(C8 r live 1000000001)[j]?=some true->PS y.Page.Tx r r.length=some j/\y.Page.Tx∈live:=by
  intro j y hy hj;rw[Qd r live _ hy]at hj
  injection hj with hj
  rw[CU]at hj
  rcases hj with hj|hj
  ·simp only[DA,Ag,CK,A5]at hj;have:=(n.tx y<|Ar hy).2;omega
  rw[Ds]at hj;obtain⟨c,c1,c2⟩:=hj;have c2':PS c r r.length=some j:=by simpa using c2
  obtain⟨_,z,z1,z2⟩:=Og (Ay _) c2';rw[hy]at z1
  injection z1 with z1
  subst z1;simp only[Jh,Ag,CK]at z2
  grind
 have hm:∀y,y∈PU b (C8 r live 1000000001) r↔y∈Ia r b live:=by
  intro y;have e1:y∈PU b (C8 r live 1000000001) r↔(∃j:Nat,r[j]?=some y/\(C8 r live 1000000001)[j]?=some true)/\y.Block=b:=by
   unfold PU;simp only[Ao,VY];constructor
   ·grind
   rintro⟨⟨j,q1,q2⟩,q3⟩;have:=zW h<|Ar q1
   grind
  rw[e1];constructor
  ·rintro⟨⟨j,q1,q2⟩,q3⟩;obtain⟨q4,q5⟩:=f j y q1 q2;refine List.mem_filterMap.2 ⟨y.Page.Tx,q5,?_⟩;rw[q4];simp[bk,q1,q3]
  intro hy;obtain⟨c,c1,j,c2,c3,c4,c5,c6⟩:=T3 hy;refine⟨⟨j,c3,?_⟩,c4⟩;rw[Qd r live _ c3,Av,CU]
  grind
 have p:∀y∈Ia r b live,y∈r/\y.Block=b:=λy hy=>by
  obtain⟨c,c1,j,c2,c3,c4,c5,c6⟩:=T3 hy
  grind
 have q:∀x∈Ia r b live,∀y∈Ia r b live,x.Leaf=y.Leaf->x=y:=λx hx y hy e=>iI h (p x hx).1 (p y hy).1 (by grind) e
 have t:∀i:Int,∀y∈LD b i (C8 r live 1000000001) r,y∈r/\y.Block=b/\y.Leaf=i:=λi y hy=>by
  obtain⟨⟨j,q1,q2⟩,q3,q4⟩:=VY.1 hy
  grind
 have h5:∀i:Int,(LD b i (C8 r live 1000000001) r).length<=1:=by
  intro i;have hd:=oU (λj y hy hj=>(f j y hy hj).1) b i
  rcases hc:LD b i (C8 r live 1000000001) r with _|⟨x,_|⟨y,l⟩⟩
  ·exact Jt 1
  ·exact Ay 1
  have hx:=t i x (by rw[hc];simp);have hy:=t i y (by rw[hc];simp);rw[hc]at hd;exact absurd (iI h hx.1 hy.1 (by rw[hx.2.1,hy.2.1])<|by rw[hx.2.2,hy.2.2]) λe=>(C0.1 hd).1 y (by simp)<|by rw[e]
 have h0:(PU b (C8 r live 1000000001) r).length<=4:=by
  unfold PU
  grind
 have h2:nI (PU b (C8 r live 1000000001) r):=by
  have hd:∀i:Int,nI (LD b i (C8 r live 1000000001) r):=λi=>oU (λj y hy hj=>(f j y hy hj).1) b i
  have cross:∀i k:Int,i≠k->∀x∈LD b i (C8 r live 1000000001) r,∀y∈LD b k (C8 r live 1000000001) r,x.Page.Tx≠y.Page.Tx:=by
   intro i k h3 x hx y hy e;obtain⟨⟨j,q1,q2⟩,q3,q4⟩:=VY.1 hx;obtain⟨⟨j',p1,p2⟩,p3,p4⟩:=VY.1 hy
   grind
  unfold PU nI;refine AQ.2 ⟨hd 0,AQ.2 ⟨hd 1,AQ.2 ⟨hd 2,hd 3,cross 2 3<|by decide⟩,?_⟩,?_⟩
  ·grind
  intro x hx y hy
  rcases Ao.1 hy with hy|hy
  ·grind
  grind
 have a:BV BE (Ia r b live) (PU b (C8 r live 1000000001) r):=AA7 (gT r b<|jV l2) h2 (λy=>(hm y).symm) q;have u:=a.len;have g:srt BE (PU b (C8 r live 1000000001) r):=by
  have hc:∀i:Int,srt BE (LD b i (C8 r live 1000000001) r):=by
   intro i
   refine List.pairwise_of_forall_mem_list λx hx y hy=>?_
   show x.Leaf<=y.Leaf
   grind
  have cross:∀i k:Int,i<=k->∀x∈LD b i (C8 r live 1000000001) r,∀y∈LD b k (C8 r live 1000000001) r,BE x<=BE y:=by
   intro i k h3 x hx y hy;show x.Leaf<=y.Leaf
   grind
  unfold PU srt;refine AQ.2 ⟨hc 0,AQ.2 ⟨hc 1,AQ.2 ⟨hc 2,hc 3,cross 2 3<|by decide⟩,?_⟩,?_⟩
  ·intro x hx y hy
   rcases Ao.1 hy with hy|hy
   ·exact cross 1 2 (by decide) x hx y hy
   exact cross 1 3 (by decide) x hx y hy
  intro x hx y hy
  rcases Ao.1 hy with hy|hy
  ·exact cross 0 1 (by decide) x hx y hy
  rcases Ao.1 hy with hy|hy
  ·exact cross 0 2 (by decide) x hx y hy
  exact cross 0 3 (by decide) x hx y hy
 have I0:MvI 0 (d.Seq,[],d.Flash.Blocks):=⟨h.fl.cap,Ay _,by omega,by omega⟩;obtain⟨v,v1,v2⟩:=ABL (b:=b) (PU b (C8 r live 1000000001) r) I0 (by omega);refine⟨v,v1,?_,?_,u.symm,h0,hm⟩
 ·unfold Hp;rw[h.scan.s,l1];simp only[Aa];rw[NA r live _ h.scan.len l4];have h4:live.foldl (fC r) (r.map<|DA 1000000001)=C8 r live 1000000001:=rfl;rw[h4];have ho:=wL m hk (Kx r live 1000000001) hn b 4 0 (by omega) I0 (by omega);have eF:zC b (C8 r live 1000000001) r 4 0=PU b (C8 r live 1000000001) r:=by
   simp[zC,PU]
  grind
 unfold Na;rw[AC2 h.scan (cA h.st l1) l4 b];simp only[Aa];obtain⟨X,x1,x2,x3⟩:=gV BE (Ia r b live) (by omega);have hX:X=PU b (C8 r live 1000000001) r:=Oj BE x2 g (λk=>by rw[x3 k,<-a k]);rw[x1,hX];have ho:=yJ d b (PU b (C8 r live 1000000001) r) (by omega) ⟨by omega,w.2⟩ (PU b (C8 r live 1000000001) r).length 0 (by omega) I0 (by omega)<|by omega
 grind
theorem ACw (s:Store) (hv:s.Vols.length<=1048576) (id:Int):∃w,De s id=some w/\(w<0↔HK (AM s) id=none):=by
 rcases DU s hv id with⟨e,h⟩|⟨k,v,e,h1,h2,_⟩
 ·exact⟨_,e,⟨λ_=>Jo.1 h,λ_=>by omega⟩⟩
 refine⟨_,e,⟨λhh=>by omega,λhh=>absurd h2<|Jo.2 hh v<|Ar h1⟩⟩
theorem ACF (h:He d r) (hn:d.Store.Next<1000000000) (q:Ask):∃b text no,EJ d q=some (b,text,no)/\(b=[]\/∃x p,b=[x]/\Dc (AM d.Store) d.Store.Next x=some p)/\(L text≠ []->q.Kind=1):=by
 have o:=h.st.len;have g:=h.st.nx;obtain⟨v,a1,a2⟩:=PY q
 have a:∀{P:Prop},L (bs [])≠ []->P:=λhh=>absurd (El _) hh
 unfold EJ;rw[a1];simp only[Aa]
 cases v with
 |false=>exact⟨_,_,_,rfl,.inl rfl,a⟩
 |true=>
  have hq:=a2 rfl;simp only[An,Ad];have k:=hq.kind;obtain⟨w,hw,i⟩:=ACw d.Store (by omega) q.Vol;rw[hw];simp only[Aa];by_cases h34:q.Kind=3\/q.Kind=4
  ·have:(cond (q.Kind==3) (some true) (some<|q.Kind==4):Option Bool)=some true:=by grind
   rw[this];simp only[Aa,Ai];by_cases f:w<0
   ·rw[Af (by omega:¬w>=0)];simp only[Ad];obtain⟨u,hu,s⟩:=ACw d.Store (by omega) q.Of;obtain⟨j2,l,m⟩:∃j2,(cond (q.Kind==4) ((De d.Store q.Of).bind λv3=>some<|decide<|v3<0) (some false):Option Bool)=some j2/\(j2=false->q.Kind=4->HK (AM d.Store) q.Of≠none):=by grind
    rw[l];simp only[Aa]
    cases j2 with
    |true=>exact⟨_,_,_,rfl,.inl rfl,a⟩
    |false=>
     simp only[Ad];rw[Bh];by_cases j:(d.Store.Vols.length:Int)>=3
     ·rw[Ac j];exact⟨_,_,_,rfl,.inl rfl,a⟩
     rw[Af j];refine⟨_,_,_,rfl,.inr ⟨_,(bO (AM d.Store) q.Vol (if 0<q.Of then(HK (AM d.Store) q.Of).getD Oc else Oc),d.Store.Next),rfl,?_⟩,a⟩;unfold Dc;rw[AO (by rw[AEO hq.vol hq.of_];simp),AO (by simp),AH rfl,AO];simp only[not_or];refine⟨?_,by rw[i.1 f];simp,by rw[IQ];omega⟩;rintro⟨e1,e2⟩
     rcases h34 with e|e
     ·have:=hq.no (by omega);omega
     exact m rfl e e2
   rw[Ac (by omega:w>=0)];exact⟨_,_,_,rfl,.inl rfl,a⟩
  have:(cond (q.Kind==3) (some true) (some<|q.Kind==4):Option Bool)=some false:=by grind
  rw[this];simp only[Aa,Ad];by_cases f:w<0
  ·rw[Af (by omega:¬w>=0)];exact⟨_,_,_,rfl,.inl rfl,a⟩
  rw[Ac (by omega:w>=0)]
  have hg:HK (AM d.Store) q.Vol≠none:=λe=>f<|i.2 e
  have taken:∀x:Cw,GB x=true->x.Kind≠1->x.Kind≠2->x.Vol=q.Vol->x.Chunk<1000000000->∃p,Dc (AM d.Store) d.Store.Next x=some p:=by
   intro x x1 x2 x3 x4 x5;unfold Dc;have x6:¬(HK (AM d.Store) x.Vol=none\/x.Chunk=1000000000):=by grind
   rw[AO (by rw[x1];simp),AO x2,AO x3,AO x6];split<;>exact⟨_,rfl⟩
  simp only[An,Ad]
  cases k1:(q.Kind==1)with
  |true=>
   simp only[Ai];have k1':q.Kind=1:=by simpa using k1
   obtain⟨live,l1,l2,l3,l4⟩:=Hx h.st;obtain⟨c,f1,f2⟩:=RT h l4 q.Text;rw[l1,Aa,f1];simp only[Aa]
   rcases f2 with⟨rfl,f2⟩|⟨f2,f3⟩
   ·obtain⟨z,z1,z2,z3⟩:=r6 q.Text hq.text;rw[show((0:Int)==0)=true from rfl,z1];obtain⟨p,hp⟩:=taken (Cw.mk 4 q.Vol q.Sector d.Store.Next) (ABk hq.vol (by have:=hq.sec;omega) ⟨g.1,g.2⟩) (by simp) (by simp) rfl hn;exact⟨_,_,_,rfl,.inr ⟨_,_,rfl,hp⟩,λ_=>k1'⟩
   have n:=(l3 c).1 f2;have t:=Zs h.st n;rw[show(c==0)=false by grind];obtain⟨p,hp⟩:=taken (Cw.mk 4 q.Vol q.Sector c) (ABk hq.vol (by have:=hq.sec;omega)<|by omega) (by simp) (by simp) rfl (by show c<_;omega);exact⟨_,_,_,rfl,.inr ⟨_,_,rfl,hp⟩,λ_=>k1'⟩
  |false=>
   simp only[Ad]
   cases k2:(q.Kind==2)with
   |true=>
    obtain⟨p,hp⟩:=taken (Cw.mk 5 q.Vol q.Sector 0) (by
     have:=hq.vol;have:=hq.sec;unfold GB
     grind) (by simp) (by simp) rfl<|by grind
    exact⟨_,_,_,rfl,.inr ⟨_,_,rfl,hp⟩,a⟩
   |false=>
    simp only[Ad]
    cases k5:(q.Kind==5)with
    |true=>
     obtain⟨p,hp⟩:=taken (Cw.mk 3 q.Vol 0 0) (by
      have:=hq.vol;unfold GB
      grind) (by simp) (by simp) rfl<|by grind
     exact⟨_,_,_,rfl,.inr ⟨_,_,rfl,hp⟩,a⟩
    |false=>exact⟨_,_,_,rfl,.inl rfl,a⟩
theorem AAJ (h:Bx f):Od f<=10000:=by
 have hl:∀l:List Leaf,(∀x∈l,lfP x)->(l.map PO).sum<=120*l.length:=by
  intro l
  induction l with
  |nil=>intro _;simp
  |cons x l ih=>
   intro hx;rw[CL,Nu,AA];have:=ih (λy hy=>hx y<|by simp[hy]);have h1:PO x<=120:=by
    have a:x.Text.size=(L x.Text).length:=by rfl
    unfold PO
    rcases hx x (by simp)with⟨_,e⟩|⟨_,_,e⟩|⟨_,e⟩
    ·rw[a,e];simp
    ·omega
    omega
   omega
 have hb:∀l:List Block,(∀b∈l,Lu b)->(l.map KA).sum<=500*l.length:=by
  intro l
  induction l with
  |nil=>intro _;simp
  |cons b l ih=>
   intro hx;rw[CL,Nu,AA];have:=ih (λy hy=>hx y<|by simp[hy]);have h1:=hx b (by simp);have h2:=hl b.Leaves h1.leaf;have h4:=h1.four;have hz:KA b=b.Leaves.length+(b.Leaves.map PO).sum:=rfl;omega
 have:=hb f.Blocks h.blk;have hn:=h.n;unfold Od zl;omega
theorem yX (hf:Bx d.Flash) (hs:C5 d.Store):Nz d<=1048576:=by
 have h1:=AAJ hf;have h2:=hs.len;have h3:=hs.small;have a:∀l:List Bs,(∀k∈l,k.Kids.length=4)->(l.map VE).sum=4*l.length:=by
  intro l
  induction l with
  |nil=>intro _;rfl
  |cons k l ih=>
   intro hl;rw[CL,Nu,ih (λx hx=>hl x<|by simp[hx]),AA];have:=hl k (by simp);unfold VE;omega
 have h4:=a d.Store.Arena.Knots (λk hk=>by
  obtain⟨i,hi,rfl⟩:=A4 hk;have:=(GH.1 hs.ar i hi).1;rw[O8 hi]at this
  exact this)
 have e1:JW d.Store=d.Store.Vols.length+(d.Store.Arena.Knots.length+(d.Store.Arena.Knots.map VE).sum):=rfl;have e2:Nz d=Od d.Flash+JW d.Store:=rfl;omega
theorem Xc (h:He d r):Nz d<=1048576:=yX h.fl h.st
theorem sW (s:Store) (hv:s.Vols.length<=1048576) (ha:RK s.Arena):∃l,LT s=some l/\R7 s=some l/\l.length<=1+17*s.Vols.length:=by
 unfold LT R7;obtain⟨l,h1,h2,h3⟩:=HF (body:=λq:List Cw×Int=>ED s q.1 q.2) (body':=λq:List Cw×Int=>JF s q.1 q.2) (λ(l:List Cw) i=>(l,i)) s.Vols.length (λi l=>l.length<=1+17*i) (λl=>l.length<=1+17*s.Vols.length)
  (λl i hi hl=>by
   have hg:s.Vols[i]?=some s.Vols[i]:=Ab hi;obtain⟨a,a1,a2,a3⟩:=Ty s.Arena ha s.Vols[i].Root;have b:ap 32 l [Cw.mk 2 s.Vols[i].Id 0 0]=some (l++ [Cw.mk 2 s.Vols[i].Id 0 0]):=Bi (by grind);simp only[ED,JF,DK hi,Au,hg,Aa,b,a1,a2];obtain⟨u,u1,u2,u3⟩:=HF (body:=λq:List Cw×Int=>EC s (i:Int) a q.1 q.2) (body':=λq:List Cw×Int=>HV s.Vols[i] a q.1 q.2) (λ(l:List Cw) k=>(l,k)) a.length (λk o=>o.length<=l.length+1+k) (λo=>o.length<=l.length+17)
    (λo k hk ho=>by
     have c:a[k]?=some a[k]:=Ab hk;simp only[EC,HV,DK hk,Au,c,hg,Aa];rw[ad1]
     cases decide (a[k]>0)with
     |true=>
      rw[Bi<|by grind]
      grind
     |false=>grind)
    (λo ho=>⟨by simp only[EC,HV,D1],o,by simp only[EC,D1],by omega⟩) (s:=l++ [Cw.mk 2 s.Vols[i].Id 0 0]) (by simp)
   have u1':Al (λq:List Cw×Int=>EC s (i:Int) a q.1 q.2) (l++ [Cw.mk 2 s.Vols[i].Id 0 0],0)=some u:=u1;have u2':Al (λq:List Cw×Int=>HV s.Vols[i] a q.1 q.2) (l++ [Cw.mk 2 s.Vols[i].Id 0 0],0)=some u:=u2;rw[u1',u2',Aa,ad1]
   grind)
  (λl hl=>⟨by simp only[ED,JF,D1],l,by simp only[ED,D1],hl⟩) (s:=[Cw.mk 1 0 s.Next 0]) (by simp)
 grind
theorem ZY (l:List AL) (h:l.length<=1048576):OT l l=some true:=by
 unfold OT;rw[V8,Ad];obtain⟨a,h1,h2⟩:=AJ (body:=λs:Int=>Ii l l s) (λ(_:Unit) i=>i) l.length (λ_ _=>True) (λa=>a= .inl ())
  (λ_ i hi _=>by
   have hx:=Ab hi;refine .inl ⟨(),?_,trivial⟩;simp only[Ii,DK hi,Au,hx,Aa,beq_self_eq_true,QA,JZ,decide_true,An,Ad]
   rw[ad1])
  (λ_ _=>⟨.inl (),by simp only[Ii,D1],rfl⟩) (s:=()) trivial
 rw[h1,h2];rfl
theorem sV (h:He d r):∃st ok,MN d=some (st,ok)/\P2 d=some (st,ok)/\(ok=true->1<=st.length)/\st.length<=1048576:=by
 have hf:Kh d.Flash:=h.fl.cap;obtain⟨b,r1,r2,r3⟩:=sW d.Store (by have:=h.st.len;omega)<|nJ h.st;have hb:=h.st.vs;obtain⟨b1,b2⟩:=jS hb;have e:=Wq h.st;rw[r1]at e
 injection e with e
 subst e;obtain⟨st,ok,w1,w2,w3⟩:=PL d hf (Lr (AM d.Store) d.Store.Next) (by omega)<|bs [];refine⟨st,ok,?_,?_,?_,by omega⟩
 ·unfold MN;grind
 ·unfold P2;grind
 intro ho;subst ho
 rcases RN h.fl h.seqs (Lr (AM d.Store) d.Store.Next) (by unfold Lr;simp) b2 b1 (bs [])with w|⟨steps,T,g,c,q1,q2,q3,q4,q5,q6,q7,q8,q9⟩
 ·rw[w1]at w;cases w
 rw[w1]at q2
 injection q2 with q2
 injection q2 with q2 _
 subst q2;have a:=(Ft q7).2;rw[Ak]at a;have f:(Cq (Io d<|bs []) d.Tx T).length=T.length:=by unfold Cq;grind
 omega
theorem X9 (x a b:Int):GE x a b=some (decide (a<=x/\x<=b)):=by
 unfold GE
 grind
theorem Nh (h:l.length<=1048576):ID l=some l:=by
 unfold ID;rw[Mk<|by omega];rfl
theorem SY (a:Arena) (h:ACq a.Knots):IF a=some a:=by
 unfold IF;have q:=SK (body:=λs:Int×List Bs=>IE a s.1 s.2) a.Knots (λk=>k)
  (λi x b hx ho=>by
   have hi:=(Ae.1 hx).1;have hk:=h.2 x<|Ar hx;simp only[IE,DK hi,Au,hx,Aa];rw[Nh hk];simp only[Aa];have:=h.1;rw[Bi (by simp;omega),ad1]
   rfl)
  (λb=>by simp only[IE,D1])
 rw[q];simp
theorem OC (s:Store) (h:ACq s.Arena.Knots) (hv:s.Vols.length<=1048576):Hr s=some s:=by
 unfold Hr;rw[Mk (by omega),SY _ h];rfl
theorem R8 (a:Arena) (ha:a.Knots.length<=1048576):Jn a=some (CJ a.Knots):=by rw[Xb,KQ a ha]
theorem SQ (a:Arena) (ha:a.Knots.length<=1048576) (r:Int):Ha a r=some (decide (0<=r/\r<(a.Knots.length:Int))&&!(B8 a.Knots r).Leaf):=by
 unfold Ha;rw[X9,Bh,Co];simp only[Aa];by_cases h:0<=r/\r<(a.Knots.length:Int)
 ·rw[Ac (by omega:0<=r/\r<=(a.Knots.length:Int)-1),Ac h,Ai,Ie h.1 h.2];simp
 grind
theorem qA {a:Arena} {r:Int} (ha:a.Knots.length<=1048576) (hr:D0 a.Knots r=true):(cond (r !=(-1)) ((Ha a r).bind λv2=>some (!v2)) (some false):Option Bool)=some false:=by
 rcases BY hr with rfl|⟨h0,h1,hl⟩
 ·rfl
 rw[show(r !=(-1))=true by simp;omega,Ai,SQ a ha,Ac ⟨h0,h1⟩,hl];rfl
theorem uK {r:Int} {s:Nat} {n:Int} (a:Arena) (ha:a.Knots.length<=1048000) (hK:CJ a.Knots=true) (hr:D0 a.Knots r=true) (hs:s<16) (hn:0<=n):
  Zx a r (s:Int) n=some (Arena.mk (Kc a.Knots r s n),(a.Knots.length:Int)+1):=by
 unfold Zx;rw[SY _ (Lq hK<|by omega),R8 a (by omega),X9,hK];rw[Ac (by omega:0<=(s:Int)/\(s:Int)<=15),Af (by omega:¬n<0)];simp only[An,Ad,Aa];have hq:(cond (r !=(-1)) ((Ha a r).bind λv2=>cond (!v2) (some true)<|some false) (some false):Option Bool)=some false:=by
  rcases BY hr with rfl|⟨h0,h1,hl⟩
  ·rfl
  rw[show(r !=(-1))=true by simp;omega,Ai,SQ a (by omega),Ac ⟨h0,h1⟩,hl];rfl
 rw[hq,mk4];simp only[Aa,Ad];have fin:∀(lf tp:List Int),lf.length=4->tp.length=4->Kc a.Knots r s n=a.Knots++ [Bs.mk true<|lf.set (s %4) n,Bs.mk false<|tp.set (s/4) (a.Knots.length:Int)]->
   ((gi lf<|Int.tmod (s:Int) 4).bind λx4=>(gi tp<|qu (s:Int) 4).bind λx5=>(ap 32 a.Knots [Bs.mk true<|si lf (Int.tmod (s:Int) 4) n,Bs.mk false<|si tp (qu (s:Int) 4)<|ln a.Knots]).bind λq2=>some (Arena.mk q2,ad (ln a.Knots) 1))=some (Arena.mk<|Kc a.Knots r s n,(a.Knots.length:Int)+1):=by
  intro lf tp h1 h2 h3;rw[qu4 hs,AAR,Au,Au,Ab (by omega),Ab (by omega),Aa,Bi (by simp;omega),DJ,DJ,Bh,<-h3,ad1];rfl
 rcases BY hr with rfl|⟨h0,h1,hl⟩
 ·rw[Af (by omega:¬(-1:Int)>=0)];simp only[Ad,Aa];have hx:gi [(-1:Int),-1,-1,-1] (qu (s:Int) 4)=some (-1):=by
   rw[qu4 hs,Au];have:s/4<4:=by omega
   match s/4,this with
   |0,_=>rfl
   |1,_=>rfl
   |2,_=>rfl
   |3,_=>rfl
   |n+4,h=>omega
  rw[hx,Aa,Af (by omega:¬(-1:Int)>=0)];have:=fin [0,0,0,0] [-1,-1,-1,-1] rfl rfl rfl
  grind
 rw[cT,Ie h0 h1];have h4:=(FE hK h0 h1).1;rw[Aa,Nh<|by omega];simp only[Aa];have hx:gi (B8 a.Knots r).Kids (qu (s:Int) 4)=some (MU (B8 a.Knots r)<|s/4):=by rw[qu4 hs,qZ (by omega:s/4<(B8 a.Knots r).Kids.length)]
 rw[hx];simp only[Aa]
 rcases Gw hK h0 h1 hl (show s/4<4 by omega)with e|⟨e1,e2,e3⟩
 ·rw[Af (by omega:¬MU (B8 a.Knots r) (s/4)>=0)];have:=fin [0,0,0,0] (B8 a.Knots r).Kids rfl h4 (by unfold Kc Qi UT;simp only[AO (show¬r<0 by omega),AH<|show MU (B8 a.Knots r) (s/4)<0 by omega])
  grind
 rw[cT,Ie e1<|by omega];have h5:=(FE hK e1<|by omega).1;rw[Aa,Nh<|by omega];have:=fin (B8 a.Knots<|MU (B8 a.Knots r)<|s/4).Kids (B8 a.Knots r).Kids h5 h4 (by unfold Kc Qi UT;grind)
 grind
theorem Zz (l:List Int) (n:Int) (hl:l.length<=1048576):OB l n=some (l.contains n):=by
 unfold OB;obtain⟨b,h1,h2⟩:=AJ (body:=λs:Int=>MX l n s) (λ(_:Unit) i=>i) l.length (λi _=>n∉l.take i) (λb=>(b= .inr true/\n∈l)\/(b= .inl ()/\n∉l))
  (λ_ i hi hs=>by
   have hx:=Ab hi;simp only[MX,DK hi,Au,hx,Aa];rw[ad1]
   cases e:(l[i]==n)with
   |true=>grind
   |false=>
    refine .inl ⟨(),by rfl,?_⟩;rw[Aj hi,Ao,Bk]
    grind)
  (λ_ hs=>⟨.inl (),by simp only[MX,D1],.inr ⟨rfl,by grind⟩⟩) (s:=()) (by simp)
 grind
theorem WB {r:Int} (a:Arena) (ha:a.Knots.length<=1048000) (hK:CJ a.Knots=true) (hr:D0 a.Knots r=true):∃l,Ql a r=some l/\l.length<=5/\∀i:Nat,(i:Int)∈l↔OO a.Knots r i=true:=by
 unfold Ql;rw[SQ a<|by omega]
 rcases BY hr with rfl|⟨h0,h1,hl⟩
 ·exact⟨[],rfl,by simp,λi=>by simp[OO]⟩
 rw[Ac ⟨h0,h1⟩,hl,Ie h0 h1];simp only[Cj,Xa,An,Ad,Aa];obtain⟨h4,hk⟩:=FE hK h0 h1;obtain⟨l,q1,q2,q3⟩:=AJ (body:=λs:List Int×Int=>KX a (B8 a.Knots r) s.1 s.2) (λ(o:List Int) i=>(o,i)) (B8 a.Knots r).Kids.length
  (λi o=>o.length<=1+i/\∀n:Nat,(n:Int)∈o↔(r=(n:Int)\/(n:Int)∈(B8 a.Knots r).Kids.take i)) (λo=>o.length<=5/\∀n:Nat,(n:Int)∈o↔(r=(n:Int)\/(n:Int)∈(B8 a.Knots r).Kids))
  (λo i hi ho=>by
   have hx:=Ab hi;have et:(B8 a.Knots r).Kids.take (i+1)=(B8 a.Knots r).Kids.take i++ [(B8 a.Knots r).Kids[i]]:=Aj hi;refine .inl ?_;simp only[KX,DK hi,Au,hx,Aa];rw[X9,Bh,Co,ad1];simp only[Aa];have b:(B8 a.Knots r).Kids[i]=MU (B8 a.Knots r) i:=by grind
   rcases Gw hK h0 h1 hl (show i<4 by omega)with e|⟨e1,e2,e3⟩
   ·grind
   rw[cT,Zz o _<|by omega];simp only[Aa]
   cases hc:o.contains (B8 a.Knots r).Kids[i]with
   |true=>
    grind
   |false=>
    rw[Bi (by simp;omega)];refine⟨_,rfl,by simp;omega,λn=>?_⟩
    grind)
  (λo ho=>⟨o,by simp only[KX,D1],by have:=ho.1;omega,by grind⟩) (s:=[r]) ⟨by simp,λn=>by simp[eq_comm]⟩
 rw[q1];refine⟨l,rfl,q2,λi=>?_⟩;rw[q3];unfold OO
 grind
theorem fQ (hr:GI r):∃l,Al (λs:List Int×Int=>K3 r s.1 s.2) ([],0)=some l/\l.Nodup/\(∀x,x∈l↔∃y∈r,y.Page.Kind=2/\y.Page.Tx=x)/\l.length<=r.length:=by
 have a:=hr.len;obtain⟨l,h1,h2,h3,h4⟩:=AJ (body:=λs:List Int×Int=>K3 r s.1 s.2) (λ(o:List Int) i=>(o,i)) r.length (λi o=>o.Nodup/\(∀x,x∈o↔∃y∈r.take i,y.Page.Kind=2/\y.Page.Tx=x)/\o.length<=i) (λo=>o.Nodup/\(∀x,x∈o↔∃y∈r,y.Page.Kind=2/\y.Page.Tx=x)/\o.length<=r.length)
  (λo i hi ho=>by
   have hx:=Ab hi;have et:r.take (i+1)=r.take i++ [r[i]]:=by simp
   refine .inl ?_;simp only[K3,DK hi,Au,hx,Aa];rw[ad1,Zz o _<|by omega]
   cases hk:(r[i].Page.Kind==2)with
   |false=>grind
   |true=>
    cases hc:o.contains r[i].Page.Tx with
    |true=>grind
    |false=>
     rw[Bi<|by grind];refine⟨_,rfl,?_,λx=>?_,by simp;omega⟩
     ·grind
     grind)
  (λo ho=>⟨o,by simp only[K3,D1],by grind⟩) (s:=[]) ⟨CW,by simp,by simp⟩
 grind
theorem zA (hr:GI r) (h1:l.Nodup) (h2:∀x,x∈l↔∃y∈r,y.Page.Kind=2/\y.Page.Tx=x):Sw l=Dv r:=by
 obtain⟨n1,n2,n3⟩:=GY r λy hy=>(hr.tx y hy).1;refine WS ?_ n1 λx=>?_
 ·have hs:(Sw l).Pairwise λx y=>x<=y:=by
   have:=List.pairwise_mergeSort (le:=λx y:Int=>decide<|x<=y) (λa b c h1 h2=>by simp at*;omega) (λa b=>by simp;omega) l;unfold Sw
   grind
  have hd:(Sw l).Nodup:=by
   unfold Sw;exact(List.mergeSort_perm l _).nodup_iff.2 h1
  unfold asc;exact(hs.and hd).imp (λh=>by omega)
 rw[n2,<-h2];unfold Sw;simp
theorem iD (t:ByteArray) (ht:(L t).length<=20000):∀(n a:Nat) (c:List Cw),(L t).length-a<=n->a<=(L t).length->c.length<=a->Al (λs:List Cw×Int=>M2 t s.1 s.2) (c,(a:Int))=Al (λs:List Cw×ByteArray×Int×Bool=>E7 t s.1 s.2.1 s.2.2.1 s.2.2.2) (c,t,(a:Int),false)
 |n,a,c,hn,ha,ho=>by
  rw[Ax,Ax];simp only[E7,M2];rw[B5];by_cases d:a<(L t).length
  ·rw[Ac (by omega:(a:Int)<((L t).length:Int))];rw[Fd t d,ad1];obtain⟨r1,a1,a2,a3⟩:=IS t ((a+1:Nat):Int) (by omega) ⟨by omega,by omega⟩;have f:oI r1.2.1:=by
    rcases a3 with⟨_,_,e⟩|⟨_,_,b,_,_,e,_,_,e2,_⟩
    ·rw[e];exact⟨by omega,by omega⟩
    rw[e];exact⟨by omega,by omega⟩
   obtain⟨r2,b1,b2,b3⟩:=IS t r1.2.1 (by omega) f;rw[a2,Aa,b2];have l1:Df (Eu.mk t ((a+1:Nat):Int) false)=some (if r1.2.2=true then(r1.1,Eu.mk t r1.2.1 false)else(0,Eu.mk t ((a+1:Nat):Int) true)):=by
    unfold Df
    grind
   rw[l1]
   cases h1:r1.2.2 with
   |false=>
    have l2:Df (Eu.mk t ((a+1:Nat):Int) true)=some (0,Eu.mk t ((a+1:Nat):Int) true):=by
     unfold Df
     grind
    grind
   |true=>
    simp only[Ch,Aa,An,Ad];have l2:Df (Eu.mk t r1.2.1 false)=some (if r2.2.2=true then(r2.1,Eu.mk t r2.2.1 false)else(0,Eu.mk t r1.2.1 true)):=by
     unfold Df
     grind
    rw[l2]
    cases h2:r2.2.2 with
    |false=>rfl
    |true=>
     simp only[Ch,Aa,An,Ad];obtain⟨v,c1,c2,_⟩:=dR<|Cw.mk (qu (IntKind.i64.wrap ((L t)[a].toNat:Int)) 16) (Int.tmod (IntKind.i64.wrap ((L t)[a].toNat:Int)) 16) r1.1 r2.1;rw[c1,c2];simp only[Aa]
     cases v with
     |false=>rfl
     |true=>
      rw[Bi (by simp;omega)]
      rcases b3 with⟨e,_⟩|⟨_,aa,b,m,k1,k2,k3,k4,k5,_⟩
      ·rw[h2]at e;cases e
      rcases a3 with⟨e,_⟩|⟨_,aa',b',m',p1,p2,p3,p4,p5,_⟩
      ·rw[h1]at e;cases e
      rw[k2]
      match n,hn with
      |n+1,hn=>exact iD t ht n b _ (by omega) k5 (by simp;omega)
      |0,hn=>omega
  grind
theorem fN (t:ByteArray) (ht:(L t).length<=20000):Rv t=I1 t:=by
 have h:=iD t ht (L t).length 0 [] (by omega) (by omega) (by simp);rw[show((0:Nat):Int)=0 from rfl]at h;unfold Rv I1;rw[h]
def AFx:Page:=Page.mk 0 0 0 0 0<|bs []
theorem iT (r:List Ap) (hl:r.length<=1048576) (t a c:Int) (h:(a=0/\c=0)\/(0<a/\0<c)):SP r t a c=some (match Ti r t a c with|some y=>(y.Page,true)|none=>(AFx,false)):=by
 have hp:∀y:Ap,(cond (y.Page.Kind==2) (cond (y.Page.Tx==t) (cond (y.Page.Part==a) (cond (c==0) (some true)<|some<|y.Page.Count==c)<|some false)<|some false) (some false):Option Bool)=some (s5 t a c y):=by
  intro y;unfold s5;cases y.Page.Kind==2<;>cases y.Page.Tx==t<;>cases y.Page.Part==a<;>simp only[Ai,Ad,Bool.false_and,QA]
  rcases h with⟨rfl,rfl⟩|⟨h1,h2⟩
  ·simp
  grind
 unfold SP;obtain⟨b,h1,h2⟩:=AJ (body:=λs:Int=>MW r t a c s) (λ(_:Unit) i=>i) r.length (λi _=>∀(j:Nat) x,j<i->r[j]?=some x->s5 t a c x=false) (λb=>match Ti r t a c with|some y=>b= .inr (y.Page,true)|none=>b= .inl ())
  (λ_ i hi hs=>by
   have hx:=Ab hi;simp only[MW,DK hi,Au,hx,Aa];rw[hp,ad1]
   cases e:s5 t a c r[i]with
   |true=>
    refine .inr ⟨_,rfl,?_⟩;unfold Ti;rw[nH r _ hs hx e]
   |false=>
    refine .inl ⟨(),by rfl,λj x hj d=>?_⟩
    grind)
  (λ_ hs=>⟨.inl (),by simp only[MW,D1],by
   unfold Ti
   rw[yM r _ λj x hx=>hs j x (Ae.1 hx).1 hx]⟩) (s:=()) (λj x hj=>by omega)
 rw[h1]
 cases hf:Ti r t a c with
 |none=>rw[hf]at h2;simp only at h2;rw[h2];rfl
 |some y=>grind
theorem ACa (r:List Ap) (hr:GI r) (t:Int) (v:Page×Bool) (hv:1<=v.1.Count/\v.1.Count<=9):∀(n:Nat) (a:Int) (text:ByteArray) (seq:Int),a+n=11->1<=a->a<=v.1.Count->(L text).length<=90*a.toNat->
  ∃b,Al (λs:ByteArray×Int×Int=>Mv r t v s.1 s.2.1 s.2.2) (text,seq,a)=some b/\(match parts r t n a v.1.Count (L text) seq with
   |none=>b= .inr (Tx.mk 0 0 [],false)
   |some (x,q)=>∃u,b= .inl (u,q)/\L u=x/\(L u).length<=1000)
 |0,a,text,seq,hn,h1,hc,ht=>by omega
 |n+1,a,text,seq,hn,h1,hc,ht=>by
  rw[Ax];simp only[Mv,parts];by_cases e:a<v.1.Count
  ·rw[Ac e,AH (.inr e)];rw[iT r hr.len t a v.1.Count (.inr ⟨by omega,by omega⟩)];simp only[Aa]
   cases hf:Ti r t a v.1.Count with
   |none=>grind
   |some y=>
    simp only[An,Ad];have hy:=Th hf;have d:=hr.text y hy.1;have c:=yD hy.2 (by omega);rw[FQ text y.Page.Text (by omega),Aa,Cy,c];have es:Rc a seq y=(if y.Page.Seq<seq then y.Page.Seq else seq):=by
     unfold Rc;omega
    rw[es,<-DO];exact ACa r hr t v hv n (a+1) _ _ (by omega) (by omega) (by omega) (by rw[DO,Ak];omega)
  rw[Af e,AO<|by omega]
  grind
theorem mM (r:List Ap) (hr:GI r) (t:Int):∃x ok,Rl r t=some (x,ok)/\IW r t=(if ok=true then some x else none)/\x.Recs.length<=20000:=by
 unfold Rl IW;rw[iT r hr.len t 0 0<|.inl ⟨rfl,rfl⟩];simp only[Aa]
 have a:parts r t 11 0 0 [] 0=(match Ti r t 0 0 with
  |none=>none
  |some y=>parts r t 10 1 y.Page.Count (L y.Page.Text) y.Page.Seq):=by rfl
 rw[a]
 cases hf:Ti r t 0 0 with
 |none=>simp
 |some y=>
  simp only[An,Ad];have hy:=Th hf;have c:=hr.text y hy.1;have hc:=hr.cnt y hy.1;obtain⟨b,h1,h2⟩:=ACa r hr t (y.Page,true) hc 10 1 y.Page.Text y.Page.Seq (by omega) (by omega) hc.1 (by omega);rw[h1];simp only[Aa]
  cases hp:parts r t 10 1 y.Page.Count (L y.Page.Text) y.Page.Seq with
  |none=>grind
  |some w=>
   obtain⟨x,q⟩:=w;rw[hp]at h2;obtain⟨u,rfl,rfl,h4⟩:=h2;simp only[Cp];obtain⟨l,ok,r1,r2,r3⟩:=dS u (by omega);rw[fN u (by omega),r1,AFZ,r2];simp only[Aa]
   grind
theorem Y1 (r:List Ap) (hr:GI r):Td r=some (Be r):=by
 have c:=hr.len;have a:=GY r λy hy=>(hr.tx y hy).1;obtain⟨l,l1,l2,l3,l4⟩:=fQ hr;unfold Td;rw[l1];simp only[Aa];unfold VW;rw[AH (by omega),zA hr l2 l3];simp only[Aa];obtain⟨b,h1,h2⟩:=AJ (body:=λs:List Tx×Int=>Nc r (Dv r) s.1 s.2) (λ(o:List Tx) i=>(o,i)) (Dv r).length (λi o=>o=((Dv r).take i).filterMap (IW r)) (λb=>b=Be r)
  (λo i hi ho=>by
   have hx:=Ab hi;have et:(Dv r).take (i+1)=(Dv r).take i++ [(Dv r)[i]]:=Aj hi;simp only[Nc,DK hi,Au,hx,Aa];rw[ad1];obtain⟨z,ok,k1,k2,k3⟩:=mM r hr (Dv r)[i];rw[k1];simp only[Aa];refine .inl ?_
   cases ok with
   |true=>
    rw[Bi<|by grind]
    grind
   |false=>grind)
  (λo ho=>⟨o,by simp only[Nc,D1],by rw[ho,DN];rfl⟩) (s:=[]) rfl
 rw[h1,h2];rfl
theorem i9 (x:Tx):SS x=some (fE x):=by
 unfold SS fE
 cases h:x.Recs with
 |nil=>rfl
 |cons q m=>
  rw[Ac (by rw[Bh,AA];omega:ln (q::m)>0),show gi (q::m) 0=some q from Au (i:=0)];rfl
theorem u0 (h:He d r):Pu d=LF d:=by
 have hr:=h.pages;unfold Pu LF
 cases(d.Base !=sb d.Tx 1)with
 |true=>rfl
 |false=>
  rw[h.scan.s,h.scan.i];simp only[Aa];rw[Pi r hr,Y1 r hr];simp only[Aa];have hb:(λs:Int=>KZ d (Be r) s)=(λs:Int=>GA d (Be r) s):=by
   funext s;simp only[KZ,GA]
   cases decide (s<ln (Be r))with
   |false=>rfl
   |true=>
    cases hg:gi (Be r) s with
    |none=>rfl
    |some x=>
     simp only[Aa]
     cases(x.Num==d.Base)with
     |false=>rfl
     |true=>
      rw[i9];unfold fE
      cases hx:x.Recs with
      |nil=>rfl
      |cons q m=>
       rw[Ac (by rw[Bh,AA];omega:ln (q::m)>0),show gi (q::m) 0=some q from Au (i:=0)];rfl
  rw[hb]
theorem fY (h:He d r):Ro d=LK d:=by
 have hn:=h.fl.n;obtain⟨live,l1,l2,l3,l4⟩:=Hx h.st;unfold LK Ro;rw[h.scan.s,l1];simp only[Aa];rw[NA r live d.Base h.scan.len l4,NA r live 1000000000 h.scan.len l4];simp only[Aa]
 have c:∀b,live.foldl (fC r) (r.map<|DA b)=C8 r live b:=λ_=>rfl
 rw[c,c]
 have hi:∀b:Block,K1 b=Fq b:=λ_=>rfl
 have step:∀(o:Int×Int) (i:Nat),i<d.Flash.Blocks.length->HR d o.1 o.2 (i:Int)=D7 d r (C8 r live d.Base) (C8 r live 1000000000) o.1 o.2 (i:Int)/\∃o':Int×Int,D7 d r (C8 r live d.Base) (C8 r live 1000000000) o.1 o.2 (i:Int)=some (.inl (o'.1,o'.2,((i+1:Nat):Int))):=by
  intro o i a;have hx:=Ab a;have hP:=h.fl.blk _<|Az a;have e:L4 d.Flash.Blocks[i].Leaves<=4:=by have:=uA d.Flash.Blocks[i].Leaves;rw[hP.four]at this;exact this
  simp only[D7,HR,DK a,Au,hx,Aa];rw[aW r _ (i:Int) h.scan.len<|Kx _ _ _,aW r _ (i:Int) h.scan.len<|Kx _ _ _,hi,KP _ hP.four,ad1,(sH h l1 l2 l4 1000000000 (i:Int)).2,(sH h l1 l2 l4 d.Base (i:Int)).2];generalize cn r.length (λj=>(C8 r live d.Base)[j]?.getD false&&bk r (i:Int) j)=A;generalize cn r.length (λj=>(C8 r live 1000000000)[j]?.getD false&&bk r (i:Int) j)=C;simp only[Aa]
  cases d.Flash.Blocks[i].Bad with
  |true=>grind
  |false=>
   simp only[Cj,Ai,Ad,Aa];by_cases q:L4 d.Flash.Blocks[i].Leaves=4
   ·rw[Af (by omega:¬((L4 d.Flash.Blocks[i].Leaves:Nat):Int)<4),show(((L4 d.Flash.Blocks[i].Leaves:Nat):Int)==4)=true by simp;omega];simp only[Ai,Ad,Aa];by_cases q2:A=C
    ·subst q2;simp only[beq_self_eq_true,Ai];by_cases q3:(A:Int)>=1
     ·rw[Ac q3];simp only[Ai,Aa]
      cases decide ((A:Int)<o.2)with
      |true=>simp
      |false=>grind
     grind
    grind
   grind
 obtain⟨v,e1,e2,_⟩:=HF (body:=λs:Int×Int×Int=>D7 d r (C8 r live d.Base) (C8 r live 1000000000) s.1 s.2.1 s.2.2) (body':=λs:Int×Int×Int=>HR d s.1 s.2.1 s.2.2) (λ(o:Int×Int) i=>(o.1,o.2,i)) d.Flash.Blocks.length (λ_ _=>True) (λ_=>True)
  (λo i a _=>by
   obtain⟨a1,o',a2⟩:=step o i a
   grind)
  (λo _=>⟨by simp only[D7,HR,D1],o.1,by simp only[D7,D1],trivial⟩) (s:=(-1,4)) trivial
 grind
theorem gB (h:JO d r):R5 d=LR d:=by
 obtain⟨l,d1,d2,_⟩:=f9 d<|Xc h.dev;obtain⟨st,ok,b1,b2,_⟩:=sV h.dev;obtain⟨live,l1,l2,l3,l4⟩:=Hx h.dev.st
 have hm:∀b,Na d b=Hp d b:=λb=>by
  obtain⟨v,_,v2,v3,_⟩:=dY h.dev h.few l1 l2 l3 l4 b;rw[v2,v3]
 unfold R5 LR;rw[d1,d2,u0 h.dev,fY h.dev,b1,b2]
 grind
theorem gI {c:Nat} {s:AL} (hc:s.Block=(c:Int)) (B:Int×List Block->Option ((Int×List Block)⊕List Block)) (hB:∀i bl,B (i,bl)=Fi s i bl):∀(n i:Nat) (bl:List Block) (x:Block),bl[c]?=some x->i+n=x.Leaves.length->x.Leaves.length<=4->(∀(k:Nat),k<i->x.Leaves[k]?=some (Leaf.mk 2 (bs [])))->
  Al B ((i:Int),bl)=some (bl.set c (Block.mk x.Bad x.Wear (List.replicate x.Leaves.length (Leaf.mk 2 (bs [])))))
 |0,i,bl,x,hx,hi,h4,hk=>by
  rw[Ax,hB];simp only[Fi,hc,Au,hx,Aa,I9];rw[cF];have e:x.Leaves=List.replicate x.Leaves.length (Leaf.mk 2 (bs [])):=by
   apply BN
   grind
  rw[<-e];have:bl.set c x=bl:=by
   apply BN
   grind
  cases x
  grind
 |n+1,i,bl,x,hx,hi,h4,hk=>by
  have a:i<x.Leaves.length:=by omega
  have hl:=Ab a;rw[Ax,hB];simp only[Fi,hc,Au,hx,Aa,DK a,hl,DJ];rw[ad1];have:=gI (s:=s) hc B hB n (i+1) (bl.set c<|Block.mk x.Bad x.Wear<|x.Leaves.set i<|Leaf.mk 2<|bs []) (Block.mk x.Bad x.Wear<|x.Leaves.set i<|Leaf.mk 2<|bs []) (by grind) (by simp;omega) (by simpa using h4) (λk b=>by grind);rw[this];simp
theorem AEF {s:AL} (h:Bx f) (hs:PA f s):∃g,NR f s=some (g,true)/\AAN f s g:=by
 have hd:J4 f s=some (KC f s,true):=by
  rcases LQ h s with⟨_,e⟩|⟨e,_⟩
  ·exact e
  exact absurd hs e
 unfold NR;rw[hd,C4 f h.cap];simp only[Aa,An,Ad]
 rcases hs with⟨k1,hm⟩|⟨k1,hc⟩
 ·rw[show(s.Kind==1)=true by simpa using k1];simp only[Ai];obtain⟨_,_,A,B,e1,_,e2⟩:=QZ h hm;obtain⟨x,x1,x2,x3,x4,x5,x6⟩:=hm;have hP:=h.blk x<|Ar (Cv x1).2;rw[x1];simp only[Aa];have hq:qu (FL s.Text) 2=(((L s.Text).length/2:Nat):Int):=by
   rw[B5];unfold qu;rw[show Int.tdiv ((L s.Text).length:Int) 2=(((L s.Text).length/2:Nat):Int)from(Int.ofNat_tdiv _ 2).symm];exact OM (by omega)<|by omega
  rw[hq,show sub s.Text 0 (((L s.Text).length/2:Nat):Int)=sub s.Text ((0:Nat):Int) (((L s.Text).length/2:Nat):Int)from rfl,Fe s.Text (Jt _)<|by omega];simp only[Aa];have hx:gi x.Leaves s.Leaf=some (x.Leaves[L4 x.Leaves]'(by rw[hP.four];exact x4)):=by
   rw[x3,Au];grind
  rw[hx];simp only[Aa];refine⟨_,rfl,?_,λn hw=>kC hw<|hw x<|Ar (Cv x1).2,.inl ⟨k1,?_⟩⟩
  ·obtain⟨b0,b1⟩:=Cv x1;obtain⟨c,a⟩:∃c:Nat,s.Block=(c:Int):=⟨_,(AS b0).symm⟩;rw[a,x3,DJ,DJ];refine Ng h (Vp hP rfl x4 (.inr<|.inr ⟨rfl,?_⟩)<|by simp);show(L<|s.Text.extract 0<|(L s.Text).length/2).length<=120;have:(L<|s.Text.extract 0<|(L s.Text).length/2).length<=(L s.Text).length:=by
    rw[If];simp;omega
   omega
  have:=e2<|s.Text.extract 0<|(L s.Text).length/2;unfold Vj at this
  grind
 rw[show(s.Kind==1)=false by simp;omega];simp only[Ad];obtain⟨x,x1,x2,x3⟩:=hc;obtain⟨b0,b1⟩:=Cv x1;obtain⟨c,a⟩:∃c:Nat,s.Block=(c:Int):=⟨_,(AS b0).symm⟩;rw[a,Ba]at b1;have hP:=h.blk x<|Ar b1;have hl:=gI (s:=s) a (λq:Int×List Block=>Fi s q.1 q.2) (λ_ _=>rfl) x.Leaves.length 0 f.Blocks x b1 (by omega) (by rw[hP.four];omega) (λk hk=>by omega);rw[show((0:Nat):Int)=0 from rfl]at hl;rw[hl];refine⟨_,rfl,?_,λn hw y hy=>?_,.inr ⟨k1,?_⟩⟩
 ·refine Ng h ⟨by simp[hP.four],hP.wear,λy hy=>?_,λk y z hy hz h0=>?_⟩
  ·rw[Dr hy];exact .inr<|.inr ⟨rfl,by rw[El];simp⟩
  grind
 ·rcases CG hy with hy|rfl
  ·exact hw y hy
  exact hw x<|Ar b1
 rw[a];exact Yt b1<|Wz _ _ _ λy hy=>by grind
theorem vW {ss:List AL} (hf:Bx f) (hk:k<=ss.length) (hl:ss.length<=1000000) (h:∃m,Steps f ss m) (torn:Bool):∃g,I4 f ss (k:Int) torn=some (g,true)/\Bx g/\Y9 f ss k g:=by
 obtain⟨z,hz⟩:=h;rw[<-BF k ss]at hz;obtain⟨m,h1,h2⟩:=(Gi _ _ _ _).1 hz;have hm:=RP hf h1;unfold I4;rw[Bh,Di];simp only[Aa];rw[Ac (by omega:0<=(k:Int)/\(k:Int)<=(ss.length:Int))];have b:dr ss 0 (k:Int)=some (ss.take k):=by
  unfold dr
  grind
 have a:(ss.take k).length=k:=by grind
 rw[b];simp only[Aa];rw[Kw hf h1 (by omega),a];simp only[Aa];rw[Af (by omega:¬(k:Int)<(k:Int))]
 cases torn with
 |false=>exact⟨m,rfl,hm,m,h1,.inl rfl⟩
 |true=>
  simp only[An,Ad,Aa];by_cases e:k=ss.length
  ·rw[show((k:Int)==(ss.length:Int))=true by simp;omega];exact⟨m,rfl,hm,m,h1,.inl rfl⟩
  rw[show((k:Int)==(ss.length:Int))=false by simp;omega];have hx:=Ab (show k<ss.length by omega);rw[AE<|show k<ss.length by omega]at h2;rw[Au,hx];simp only[Aa];obtain⟨g,g1,g2⟩:=AEF hm h2.1;rw[g1];exact⟨g,rfl,g2.1,m,h1,.inr ⟨_,hx,h2.1,g2⟩⟩
theorem aE (h:He d r) (vol k:Int):Ow d vol k=(Fw r d.Store vol k):=by
 unfold Ow;rw[h.scan.s];simp only[Aa];cases Fw r d.Store vol k<;>rfl
noncomputable def Ut (r:List Ap) (c:Int):ByteArray:=if 0<c then(Cc r c).getD (bs [])else bs []
noncomputable def FP (r:List Ap) (p:Int×List Int):Shelf:=Shelf.mk p.1 ((List.range 16).map λk=>Ut r (p.2[k]?.getD 0))
noncomputable def JU (r:List Ap) (l:Vs):List Shelf:=l.map (FP r)
theorem ABl (h:JO d r) (hv:v∈d.Store.Vols) (hk:k<16):Fw r d.Store v.Id (k:Int)=some (Ut r ((EF d.Store.Arena.Knots v.Root)[k]?.getD 0),true):=by
 have hg:=Mb h.dev.st.asc hv
 rcases Yg h v.Id hk with⟨a,_⟩|⟨f,c,a,b,_,e⟩
 ·rw[hg]at a;cases a
 rw[hg]at a
 injection a with a
 subst a;unfold Ut
 grind
theorem xU (h:JO d r):EX d=some (JU r (AM d.Store))/\HH d=some (JU r (AM d.Store)):=by
 have c:=h.dev.st.len;have hs:EX d=some (JU r<|AM d.Store):=by
  unfold EX;rw[h.dev.scan.s];simp only[Aa];obtain⟨b,h1,rfl⟩:=AJ (body:=λs:List Shelf×Int=>Dg d r s.1 s.2) (λ(o:List Shelf) i=>(o,i)) d.Store.Vols.length (λi o=>o=JU r ((AM d.Store).take i)) (λo=>o=JU r (AM d.Store))
   (λo i hi ho=>by
    have hg:d.Store.Vols[i]?=some d.Store.Vols[i]:=Ab hi;simp only[Dg,DK hi,Au,hg,Aa];have:=SK (body:=λs:Int×List ByteArray=>Et d r d.Store.Vols[i] s.1 s.2) (List.range 16) (λk=>Ut r<|(EF d.Store.Arena.Knots d.Store.Vols[i].Root)[k]?.getD 0)
     (λk x a hx ho=>by
      obtain⟨hk,hx⟩:=Ae.1 hx;rw[Dy]at hk;rw[List.getElem_range]at hx;subst hx;simp only[Et];rw[cT,ABl h (Az hi) hk,Aa,Bi (by grind),ad1]
      rfl)
     (λa=>by rfl)
    rw[this,Aa,Bi (by rw[ho];unfold JU;simp;omega),ad1];have hl:i<(AM d.Store).length:=by unfold AM;simpa using hi
    rw[ho,Aj hl];unfold JU
    simp[AM,FP])
   (λo ho=>⟨o,by simp only[Dg,D1],by
    rw[ho,AK (by unfold AM;simp)]⟩) (s:=[]) rfl
  rw[h1];rfl
 obtain⟨m,m1,m2⟩:=XT d<|Xc h.dev
 grind
theorem iV {l:Vs} (h:∀c,DG l c->Cc r' c=Cc r c):JU r' l=JU r l:=by
 refine CR λp hp=>BM (Shelf.mk p.1)<|CR λk _=>?_
 unfold Ut;split
 ·rename_i hc;rw[h _ ⟨hc,p,hp,?_⟩]
  grind
 rfl
theorem iU (h:He d r):UY (JU r (AM d.Store)):=by
 have:=h.st.len;refine⟨by unfold JU AM;simp;omega,λx hx=>?_⟩;obtain⟨p,_,rfl⟩:=A6.1 hx;simp[FP]
theorem mS (a:Arena) (ha:a.Knots.length<=1048000) (hK:CJ a.Knots=true) (R:List Int) (hc:R.length<=1000) (hR:∀r∈R,D0 a.Knots r=true) (v:List Int):∃l,Al (λs:List Int×Int=>Ge a R v s.1 s.2) ([],0)=some (.inl l)/\l.length<=5000/\∀i:Nat,(i:Int)∈l↔CC a.Knots R i=true:=by
 obtain⟨b,h1,l,rfl,h3,h4⟩:=AJ (body:=λs:List Int×Int=>Ge a R v s.1 s.2) (λ(o:List Int) i=>(o,i)) R.length (λi o=>o.length<=5*i/\∀n:Nat,(n:Int)∈o↔CC a.Knots (R.take i) n=true) (λb=>∃l,b= .inl l/\l.length<=5000/\∀i:Nat,(i:Int)∈l↔CC a.Knots R i=true)
  (λo i hi ho=>by
   obtain⟨o1,o2⟩:=ho;have hx:=Ab hi;have hr:=hR _<|Az hi;obtain⟨m,m1,m2,m3⟩:=WB a ha hK hr;simp only[Ge,DK hi,Au,hx,Aa];rw[qA (by omega) hr];simp only[Aa,Ad];rw[m1,Aa,Bi (by omega),ad1];refine .inl ⟨o++m,rfl,by simp;omega,λn=>?_⟩;rw[Ao,o2,m3];unfold CC
   rw[VP hx,CU])
  (λo ho=>⟨_,by simp only[Ge,D1],o,rfl,by have:=ho.1;omega,by grind⟩) (s:=[]) ⟨by simp,λn=>by simp[CC]⟩
 grind
theorem fH (a:Arena) (ha:a.Knots.length<=1048000) (hK:CJ a.Knots=true) (R:List Int) (hR:∀r∈R,D0 a.Knots r=true) (l:List Int) (h5:l.length<=5000) (hl:∀i:Nat,(i:Int)∈l↔CC a.Knots R i=true):
  Al (λs:List Int×Int×List Bs=>Gd a l s.1 s.2.1 s.2.2) (List.replicate a.Knots.length 0,0,[])=some (Vm a.Knots R a.Knots.length,V7 a.Knots R):=by
 have h:∀i:Nat,l.contains (i:Int)=CC a.Knots R i:=λi=>by grind
 obtain⟨b,h1,h2⟩:=AJ (body:=λs:List Int×Int×List Bs=>Gd a l s.1 s.2.1 s.2.2) (λ(o:List Int×List Bs) i=>(o.1,i,o.2)) a.Knots.length
  (λi o=>o=(Vm a.Knots R i,((List.range i).filter<|CC a.Knots R).map<|Zi a.Knots R)) (λb=>b=(Vm a.Knots R a.Knots.length,V7 a.Knots R))
  (λo i hi ho=>by
   subst ho;have h0:(0:Int)<=(i:Int):=by omega
   have f:(i:Int)<(a.Knots.length:Int):=by omega
   simp only[Gd,DK hi];rw[Ie h0 f,Zz l _ (by omega),h];simp only[Aa]
   cases hu:CC a.Knots R i with
   |false=>
    rw[ad1];refine .inl ⟨(Vm a.Knots R i,((List.range i).filter<|CC a.Knots R).map<|Zi a.Knots R),rfl,?_⟩;congr 1
    ·unfold Vm
     grind
    rw[Ej,AR,Ew (by rw[hu];simp)];simp
   |true=>
    obtain⟨h4,hk⟩:=FE hK h0 f;have t:gi (Vm a.Knots R i) (i:Int)=some 0:=by
     unfold Vm;rw[Au,HO hi,AO<|by omega]
    rw[t,Nh<|by omega];simp only[Aa];have h3:=AEi (K:=a.Knots) (R:=R) i;have m:(((List.range i).filter<|CC a.Knots R).map<|Zi a.Knots R).length=e8 a.Knots R i:=by rw[Bm];rfl
    have d:si (Vm a.Knots R i) (i:Int) (ln<|((List.range i).filter<|CC a.Knots R).map<|Zi a.Knots R)=Vm a.Knots R (i+1):=by
     rw[Bh,m,DJ];unfold Vm;apply Qa;intro j hj;by_cases e:j=i
     ·grind
     grind
    have inner:Al (λs:Int×List Int=>Gc (Vm a.Knots R i) (i:Int) (((List.range i).filter<|CC a.Knots R).map<|Zi a.Knots R) (B8 a.Knots (i:Int)) s.1 s.2) (0,(B8 a.Knots (i:Int)).Kids)=some (Zi a.Knots R i).Kids:=by
     have q:=O7 (body:=λs:Int×List Int=>Gc (Vm a.Knots R i) (i:Int) (((List.range i).filter<|CC a.Knots R).map<|Zi a.Knots R) (B8 a.Knots (i:Int)) s.1 s.2) (λl k=>(k,l)) (λ_ x=>bif(B8 a.Knots (i:Int)).Leaf then x else PN a.Knots R x) (B8 a.Knots (i:Int)).Kids
      (λk l x u v g=>by
       have w:=(Ae.1 g).1;have y:k<4:=by omega
       have ex:x=MU (B8 a.Knots (i:Int)) k:=by grind
       have same:l.set k x=l:=by
        apply BN;intro j
        grind
       simp only[Gc,DK w,Au,g,Aa];rw[d]
       cases n:(B8 a.Knots (i:Int)).Leaf with
       |true=>
        simp only[An,Ad,Ai,Aa];rw[same,ad1]
       |false=>
        simp only[Cj,Ai,Ad,Aa]
        rcases Gw hK h0 f n y with e|⟨e1,e2,e3⟩
        ·rw[cF,ad1];have:PN a.Knots R x=x:=by unfold PN;omega
         rw[this,same]
        obtain⟨c,hc⟩:∃c:Nat,x=(c:Int):=⟨x.toNat,by omega⟩;have z:x∈(B8 a.Knots (i:Int)).Kids:=Ar g;have p:=VJ (ZH hK hR hu n) h0 z (by omega);rw[hc]at p;rw[hc,Au];unfold Vm;rw[HO (by omega),Aa,AH ⟨by omega,p⟩,v,Aa,DJ,ad1]
        rfl)
      (λl u=>by simp only[Gc,D1])
     rw[Je]at q;rw[q];unfold Zi
     cases(B8 a.Knots (i:Int)).Leaf with
     |true=>simp
     |false=>rfl
    rw[inner,Aa,Bi (by rw[m];simp;omega),Aa,ad1,d];refine .inl ⟨(_,_),rfl,?_⟩;congr 1;rw[Ej,AR,Ev hu,Ny,Cb]
    rfl)
  (λo ho=>⟨o,by simp only[Gd,D1],ho⟩) (s:=(List.replicate a.Knots.length 0,[])) (by
   unfold Vm;simp only[Nat.not_lt_zero,false_and,Ke];rw[Nx,Dy]
   rfl)
 rw[<-h2];exact h1
theorem uI (a:Arena) (ha:a.Knots.length<=1048000) (hK:CJ a.Knots=true) (R:List Int) (hc:R.length<=1000) (hR:∀r∈R,D0 a.Knots r=true):ND a R=some (Arena.mk (V7 a.Knots R),R.map (PN a.Knots R)):=by
 unfold ND;rw[Nh<|by omega];simp only[Aa];obtain⟨l,l1,l2,l3⟩:=mS a ha hK R hc hR R;rw[l1,R8 a (by omega),hK];simp only[Aa,Cp,An,Ad];rw[Bh,bG (by omega) (by omega),Aa,fH a ha hK R hR l l2 l3];simp only[Aa];have q:=O7 (body:=λs:List Int×Int=>HG R (Vm a.Knots R a.Knots.length,V7 a.Knots R) s.1 s.2) (λl k=>(l,k)) (λ_ x=>PN a.Knots R x) R
  (λk l x g h b=>by
   have hk:=(Ae.1 b).1;simp only[HG,DK hk,Au,b,Aa]
   rcases BY (hR x<|Ar b)with e|⟨e1,e2,e3⟩
   ·rw[cF,ad1];have:PN a.Knots R x=x:=by unfold PN;omega
    rw[this,show l.set k x=l from by
     apply BN
     grind]
   rw[cT];obtain⟨c,d⟩:∃c:Nat,x=(c:Int):=⟨x.toNat,by omega⟩;have f:=PQ (K:=a.Knots) (Ar b) e1;rw[d]at f;rw[d,Au];unfold Vm;rw[HO (by omega),Aa,AH ⟨by omega,f⟩,h,Aa,DJ,ad1]
   rfl)
  (λl g=>by simp only[HG,D1])
 rw[Je]at q;rw[q];rfl
theorem OA (h:StoreR s):M1 s=some (L8 s):=by
 have hl:=h.len;have hf:=h.few;have e:(Bu s).length=s.Vols.length:=by unfold Bu;rw[Bm]
 unfold M1;have hr:Al (λq:List Int×Int=>F6 s q.1 q.2) ([],0)=some (Bu s):=by
  obtain⟨b,h1,h2⟩:=AJ (body:=λq:List Int×Int=>F6 s q.1 q.2) (λ(o:List Int) i=>(o,i)) s.Vols.length (λi o=>o=(s.Vols.take i).map Vol.Root) (λb=>b=Bu s)
   (λo i hi ho=>by
    have hx:=Ab hi;simp only[F6,DK hi,Au,hx,Aa];rw[Bi (by rw[ho];simp;omega)];rw[ad1]
    exact .inl ⟨_,rfl,by rw[ho,DR,hx,Cb];rfl⟩)
   (λo ho=>⟨o,by simp only[F6,D1],by rw[ho,AK<|Ay _];rfl⟩) (s:=[]) rfl
  rw[<-h2];exact h1
 rw[hr];simp only[Aa];rw[uI _ (by omega) h.ar _ (by omega) h.root];simp only[Aa];have q:=O7 (body:=λq:Int×List Vol=>Hb s (Arena.mk<|V7 s.Arena.Knots<|Bu s,(Bu s).map<|PN s.Arena.Knots<|Bu s) q.1 q.2) (λl i=>(i,l)) (λ_ v=>Vol.mk v.Id<|PN s.Arena.Knots (Bu s) v.Root) s.Vols
  (λi l x a c d=>by
   have hi:=(Ae.1 d).1;simp only[Hb,DK hi];have:gi ((Bu s).map<|PN s.Arena.Knots<|Bu s) (i:Int)=some (PN s.Arena.Knots (Bu s) x.Root):=by
    rw[Au,BX];unfold Bu
    grind
   rw[this,Au,c];simp only[Aa]
   rw[DJ,ad1])
  (λl a=>by simp only[Hb,D1])
 rw[Je]at q;rw[q];rfl
theorem ABT {R:List Int} {i:Nat} {n:Int} (hK:CJ K=true) (hR:∀r∈R,D0 K r=true) (hi:i<K.length) (hu:CC K R i=true) (hl:(B8 K (i:Int)).Leaf=true) (hn:n∈(B8 K (i:Int)).Kids):∃r∈R,n∈EF K r:=by
 unfold CC at hu;obtain⟨r,hr,h⟩:=Ds.1 hu;unfold OO at h;rw[Ag,A5,CU,A5,Ds]at h;obtain⟨h0,h⟩:=h
 rcases BY (hR r hr)with e|⟨_,h1,h2⟩
 ·omega
 rcases h with h|⟨x,hx,he⟩
 ·grind
 obtain⟨h4,hk⟩:=FE hK h0 h1;obtain⟨j,hj,c⟩:=A4 hx;have a:MU (B8 K r) j=(i:Int):=by grind
 obtain⟨g4,gk⟩:=FE hK (r:=(i:Int)) (by omega) (by omega);obtain⟨t,ht,d⟩:=A4 hn;have b:MU (B8 K (i:Int)) t=n:=by grind
 refine⟨r,hr,A6.2 ⟨4*j+t,by simp;omega,?_⟩⟩;unfold Sc;rw[AO (by omega),show(4*j+t)/4=j by omega,show(4*j+t) %4=t by omega,a,AO (by omega),b]
theorem Y0 (h:C5 s):Qo s=some true:=by
 have hl:=h.len;have hf:=h.few;unfold Qo;rw[Bh,cF,R8 _ (by omega),h.ar,X9,Ac h.nx];obtain⟨b,h1,l,rfl,h3,h4⟩:=AJ (body:=λq:List Int×Int=>Lg s q.1 q.2) (λ(o:List Int) i=>(o,i)) s.Vols.length (λi o=>o.length<=5*i/\∀n:Nat,(n:Int)∈o↔CC s.Arena.Knots ((Bu s).take i) n=true) (λb=>∃l,b= .inl l/\l.length<=5000/\∀i:Nat,(i:Int)∈l↔CC s.Arena.Knots (Bu s) i=true)
  (λo i hi ho=>by
   obtain⟨o1,o2⟩:=ho;have hx:=Ab hi;have hm:s.Vols[i]∈s.Vols:=Az hi;have a:s.Vols[i].Root∈Bu s:=A6.2 ⟨_,hm,rfl⟩;have hr:=h.root _ a;have e:(Bu s)[i]?=some s.Vols[i].Root:=by unfold Bu;grind
   obtain⟨m,m1,m2,m3⟩:=WB s.Arena (by omega) h.ar hr;simp only[Lg,DK hi,Au,hx,Aa];rw[X9,Ac<|h.ids _ hm,qA (by omega) hr];have hj:(cond (decide<|(i:Int)>0) ((gi s.Vols<|sb (i:Int) 1).bind λx2=>cond (decide<|x2.Id>=s.Vols[i].Id) (some true)<|some false) (some false):Option Bool)=some false:=by
    by_cases h0:i=0
    ·rw[cF]
    rw[cT,Co,show(i:Int)-1=((i-1:Nat):Int) by omega,Au,Ab<|by omega];simp only[Aa];have:=SF h.asc (show i-1<i by omega) (x:=s.Vols[i-1].Id) (y:=s.Vols[i].Id) (by grind) (by grind);rw[cF]
   rw[hj];simp only[Aa,Ad];rw[m1,Aa,Bi (by omega),ad1];refine .inl ⟨o++m,rfl,by simp;omega,λn=>?_⟩;rw[Ao,o2,m3];unfold CC
   rw[VP e,CU])
  (λo ho=>⟨_,by simp only[Lg,D1],o,rfl,by have:=ho.1;omega,by
   have:=ho.2;rw[AK (by unfold Bu;grind)]at this
   exact this⟩) (s:=[]) ⟨by simp,λn=>by simp[CC]⟩
 rw[h1];simp only[Aa,Cp];obtain⟨c,q1,q2⟩:=AJ (body:=λq:Int=>Lf s l q) (λ(_:Unit) i=>i) s.Arena.Knots.length (λ_ _=>True) (λc=>c= .inl ())
  (λ_ i hi _=>by
   have hu:=h.used i hi;simp only[Lf,DK hi];rw[Ie (by omega) (by omega),Zz l _ (by omega),List.contains_iff_mem.2<|(h4 i).2 hu];simp only[Aa,An,Ad];obtain⟨d,e1,e2⟩:=AJ (body:=λq:Int=>Le s (B8 s.Arena.Knots (i:Int)) q) (λ(_:Unit) i=>i) (B8 s.Arena.Knots (i:Int)).Kids.length (λ_ _=>True) (λc=>c= .inl ())
    (λ_ k hk _=>by
     have hx:=Ab hk;have h44:=(FE h.ar (r:=(i:Int)) (by omega)<|by omega).1;simp only[Le,DK hk,Au,hx,Aa];rw[ad1]
     cases f:(B8 s.Arena.Knots (i:Int)).Leaf with
     |false=>simp
     |true=>
      obtain⟨r,r1,r2⟩:=ABT h.ar h.root hi hu f<|Az hk;have:=h.lt r r1 _ r2;rw[Af<|by omega]
      simp)
    (λ_ _=>⟨_,by simp only[Le,D1],rfl⟩) (s:=()) trivial
   rw[e1,e2];rw[ad1]
   simp)
  (λ_ _=>⟨_,by simp only[Lf,D1],rfl⟩) (s:=()) trivial
 rw[q1,q2];rfl
def AB4 (l:List Vol) (v:Vol):List Vol:=(l.filter λw=>decide<|w.Id<v.Id)++ [v]++l.filter λw=>decide<|w.Id>v.Id
theorem AA0 {l:List Vol} (h:(l.map Vol.Id).Pairwise (·<·)) (hv:∀w∈l,w.Id≠v.Id) (hl:l.length<=3):LB (NW Bo) (l++ [v])=some (AB4 l v):=by
 have hk:∀x,Bo x=x.Id:=λ_=>rfl
 obtain⟨r,h1,h2,h3⟩:=gV Bo (l++ [v]) (by simp;omega);have hs:srt Bo (AB4 l v):=by
  have:=ZV h v;rw[K8]at this
  exact this.imp λhh=>by rw[hk,hk];omega
 have:r=AB4 l v:=by
  refine Oj _ h2 hs λk=>?_
  rw[h3 k];unfold AB4;rw[AR,AR,AR,Ep,Ep]
  rcases Int.lt_trichotomy k v.Id with e|e|e
  ·have e2:l.filter (λa=>(Bo a==k)&&decide (a.Id>v.Id))=[]:=by
    rw[Bq];grind
   grind
  ·have e0:l.filter (λa=>Bo a==k)=[]:=by
    rw[Bq];grind
   have e2:l.filter (λa=>(Bo a==k)&&decide (a.Id>v.Id))=[]:=by
    rw[Bq];grind
   grind
  have e2:l.filter (λa=>(Bo a==k)&&decide (a.Id<v.Id))=[]:=by
   rw[Bq];grind
  grind
 rw[h1,this]
theorem mF {r:Cw} {q:Int} (h:C5 s) (hn:De s r.Vol=some (-1)) (hv:∀v∈s.Vols,v.Id≠r.Vol) (h3:s.Vols.length≠3) (hq:(cond (decide (r.Arg>0)) ((De s r.Arg).bind λv1=>cond (decide (v1<0)) ((Ed s).bind λv2=>some (.inr (v2,false))) ((gi s.Vols v1).bind λx1=>some (.inl x1.Root))) (some (.inl (-1))):Option (Int⊕(Store×Bool)))=some (.inl q)):Gp s r=some (Store.mk (AB4 s.Vols (Vol.mk r.Vol q)) s.Arena s.Next,true):=by
 have hl:=h.len;have c:=Lq h.ar (by have:=h.few;omega);have a:=Gr s c (by omega);unfold Gp;rw[hq,hn];simp only[Aa,Cp];rw[cF,Bh,show((s.Vols.length:Int)==3)=false by simp;omega];rw[a];have k1:=TL (body:=λq:List Vol×Int=>Hn s r q.1 q.2) s.Vols (λv=>decide<|v.Id<r.Vol) [] (by simp;omega)
  (λi v b hv ho=>by
   have hi:=(Ae.1 hv).1;simp only[Hn,DK hi,Au,hv,Aa];rw[ad1]
   cases decide (v.Id<r.Vol)with
   |true=>rw[Bi (by simp;omega)];rfl
   |false=>rfl)
  (λb=>by simp only[Hn,D1])
 rw[A3]at k1;rw[k1];simp only[Aa];have d:=gU s.Vols r.Vol;rw[Bi (by simp;omega)];simp only[Aa];have k2:=TL (body:=λq:List Vol×Int=>Hm s r q.1 q.2) s.Vols (λv=>decide<|v.Id>r.Vol) ((s.Vols.filter λv=>decide<|v.Id<r.Vol)++ [Vol.mk r.Vol q]) (by simp;omega)
  (λi v b hv ho=>by
   have hi:=(Ae.1 hv).1;simp only[Hm,DK hi,Au,hv,Aa];rw[ad1]
   cases decide (v.Id>r.Vol)with
   |true=>rw[Bi (by simp;omega)];rfl
   |false=>rfl)
  (λb=>by simp only[Hm,D1])
 rw[k2];rfl
theorem rI {r:Cw} (h:C5 s) (hb:GB r=true) (hk:r.Kind=2):∃t ok,Gp s r=some (t,ok)/\EM s r.Vol r.Arg=some (ok,t):=by
 have hl:=h.len;have b:=Lq h.ar (by have:=h.few;omega);have c:=Gr s b (by omega);have hr:=hb;unfold GB at hr;rw[hk]at hr;simp at hr
 have a:∀id,JV s id=De s id:=λ_=>rfl
 have root:(Gp s r=some (s,false)/\EM s r.Vol r.Arg=some (false,s))\/∃q,(cond (decide<|r.Arg>0) ((De s r.Arg).bind λv1=>cond (decide<|v1<0) ((Ed s).bind λv2=>some<|.inr (v2,false))<|(gi s.Vols v1).bind λx1=>some<|.inl x1.Root) (some<|.inl<|-1):Option (Int⊕(Store×Bool)))=some (.inl q)/\(cond (r.Arg !=0) ((De s r.Arg).bind λv1=>cond (decide<|v1<0) (some<|.inr (false,s))<|(gi s.Vols v1).bind λx1=>some<|.inl x1.Root) (some<|.inl<|-1):Option (Int⊕(Bool×Store)))=some (.inl q):=by
  unfold Gp EM;by_cases h0:0<r.Arg
  ·rw[Ac (by omega:r.Arg>0),show(r.Arg !=0)=true by simp;omega,a]
   rcases DU s (by omega) r.Arg with⟨h1,h2⟩|⟨k,v,h1,h2,h3,_⟩
   ·grind
   right;rw[h1];refine⟨v.Root,?_,?_⟩
   ·simp only[Aa];rw[cF,Au,h2];rfl
   simp only[Aa];rw[cF,Au,h2];rfl
  grind
 rcases root with⟨g1,g2⟩|⟨q,g1,g2⟩
 ·grind
 rcases DU s (by omega) r.Vol with⟨h1,h2⟩|⟨k,v,h1,h2,h3,_⟩
 ·by_cases h3:s.Vols.length=3
  ·refine⟨s,false,?_,?_⟩
   ·unfold Gp;rw[g1,h1];simp only[Aa,Cp];rw[cF,Bh,h3]
    grind
   unfold EM;rw[a,a,g2,h1];simp only[Aa,Cp];rw[cF,Bh,h3];rfl
  refine⟨_,true,mF h h1 h2 h3 g1,?_⟩;unfold EM;rw[a,a,g2,h1];simp only[Aa,Cp];rw[cF,Bh,Af (by omega:¬(s.Vols.length:Int)>=3)];rw[Bi (by simp;omega)];simp only[Aa];rw[AA0 h.asc (v:=Vol.mk r.Vol q) h2 hl];rfl
 refine⟨s,false,?_,?_⟩
 ·unfold Gp
  grind
 unfold EM
 grind
theorem vU (h:C5 s) (r:Cw):Zy s r=TD s r:=by
 have hl:=h.len;have d:=Lq h.ar (by have:=h.few;omega);have e:=Gr s d (by omega);have c:=OC s d<|by omega
 have i:∀id,JV s id=De s id:=λ_=>rfl
 have f:Ru r=some (GB r):=by
  obtain⟨v,a1,a2,_⟩:=dR r;rw[NT]at a1;rw[a2,<-a1]
 have a:=cV h r;unfold Zy;rw[c,Y0 h,f];simp only[Aa,An,Ad]
 cases hb:GB r with
 |false=>
  unfold Mu Dc at a
  grind
 |true=>
  simp only[An,Ad];have hr:=hb;unfold GB at hr;unfold TD at a⊢;rw[S3 h,NT,hb]at a⊢;simp only[Aa,An,Ad]at a⊢;unfold PF
  cases k1:(r.Kind==1)with
  |true=>
   have e1:r.Kind=1:=by simpa using k1
   rw[e1]at hr;simp at hr;simp only[Ai,Aa,An,Ad];have hj:(cond (r.Arg==0) (some 1) (some r.Arg):Option Int)=some (if 1>r.Arg then 1 else r.Arg):=by grind
   rw[hj];simp only[Aa];have hP:C5 (Store.mk [] (Arena.mk [])<|if 1>r.Arg then 1 else r.Arg):=by
    refine⟨⟨by simp,rfl,?_,by simp,by simp,by simp[Bu],by simp[Bu],by simp⟩,by simp⟩
    grind
   rw[OA hP.toStoreR,ZN hP];rfl
  |false=>
   simp only[Ad];rw[k1]at hr a;simp only[Ad]at a
   cases k2:(r.Kind==2)with
   |true=>
    rw[k2]at a;simp only[Ai]at a⊢;obtain⟨t,ok,c1,c2⟩:=rI h hb (by simpa using k2);rw[c1]at a⊢;rw[c2];simp only[Aa]at a⊢;unfold Mu at a
    cases ok with
    |false=>grind
    |true=>
     split at a
     ·grind
     obtain⟨t',q,hP,_⟩:=a
     injection q with q
     injection q with q _
     subst q;simp only[An,Ad];have j:Store.mk t.Vols (Arena.mk t.Arena.Knots) t.Next=t:=rfl;rw[j,OA hP.toStoreR,ZN hP];rfl
   |false=>
    simp only[Ad];rw[k2]at hr;rw[i]
    rcases DU s (by omega) r.Vol with⟨h1,h2⟩|⟨k,v,h1,h2,h3,_⟩
    ·grind
    rw[h1];simp only[Aa];rw[cF];simp only[Aa];have hm:=Ar h2;have l:=(Ae.1 h2).1
    cases hc:(r.Chunk==1000000000)with
    |true=>grind
    |false=>
     simp only[Ad];have m:r.Chunk≠1000000000:=by simpa using hc
     rw[e];simp only[Aa]
     cases k3:(r.Kind==3)with
     |true=>
      simp only[Ai];rw[Bh,ad1];have d1:dr s.Vols 0 (k:Int)=some (s.Vols.take k):=by
       unfold dr
       grind
      have d2:dr s.Vols ((k+1:Nat):Int) (s.Vols.length:Int)=some (s.Vols.drop<|k+1):=by
       unfold dr;rw[AH ⟨by omega,by omega,by omega⟩,Ba,Ba,AK<|by simp]
      rw[d1,d2];simp only[Aa];rw[Mk (by simp;omega)];simp only[Aa];rw[Bi (by simp;omega),PK h.asc h2,h3];simp only[Aa,An,Ad];have hR:=ACj h r.Vol;rw[Jx hR,OA hR]
     |false=>
      simp only[Ad];rw[k3]at hr;have ha:0<=r.Arg/\r.Arg<16/\0<=r.Chunk/\r.Chunk<=1000000000:=by grind
      obtain⟨t,ht⟩:∃t:Nat,r.Arg=(t:Int):=⟨_,(AS ha.1).symm⟩;have b:=h.root _<|A6.2 ⟨v,hm,rfl⟩;rw[Au,h2];simp only[Aa];rw[ht,aF _ (by have:=h.few;omega) h.ar b (by omega) ha.2.2.1,uK _ (by have:=h.few;omega) h.ar b (by omega) ha.2.2.1];simp only[Aa,An,Ad];rw[DJ,Cy];have hR:=AEh h h2 (show t<16 by omega) ha.2.2.1 (show r.Chunk+1<=1000000000 by omega);by_cases g:r.Chunk>=s.Next
      ·rw[Ac g,AH (by omega:r.Chunk+1>s.Next)];rw[show max s.Next (r.Chunk+1)=r.Chunk+1 by omega]at hR;simp only[Ai];rw[Jx hR,OA hR]
      rw[Af g,AO (by omega:¬r.Chunk+1>s.Next)];rw[show max s.Next (r.Chunk+1)=s.Next by omega]at hR;simp only[Ad];rw[Jx hR,OA hR]
theorem f7 (h:C5 s) (a:List Cw) (hr:a.length<=1048576):R1 s a=LP s a:=by
 have hl:=h.len;have d:=Lq h.ar (by have:=h.few;omega);have e:=Gr s d (by omega);have c:=OC s d (by omega);unfold R1 LP;rw[e,c];obtain⟨b,h1,h2,_⟩:=HF (body:=λq:Int×List Vol×List Bs×Int=>EA s a q.1 q.2.1 q.2.2.1 q.2.2.2) (body':=λq:Int×List Vol×List Bs×Int=>JE s a q.1 q.2.1 q.2.2.1 q.2.2.2) (λ(t:Store) i=>(i,t.Vols,t.Arena.Knots,t.Next)) a.length (λ_ t=>C5 t) (λ_=>True)
  (λt i hi hP=>by
   have hx:=Ab hi;have g:Store.mk t.Vols (Arena.mk t.Arena.Knots) t.Next=t:=rfl;have f:=cV hP a[i];simp only[EA,JE,DK hi,Au,hx,Aa];rw[g,vU hP];unfold Mu at f;split at f
   ·grind
   obtain⟨u,u1,u2,_⟩:=f;rw[u1];rw[ad1]
   grind)
  (λt _=>⟨by simp only[EA,JE,D1],.inl (t.Vols,t.Arena.Knots,t.Next),by simp only[EA,D1],trivial⟩) (s:=s) h
 grind
theorem bW (l:List Tx) (hl:l.length<=1048576) (hr:∀x∈l,x.Recs.length<=20000):Pv l=some (CO l):=by
 unfold Pv;obtain⟨b,h1,h2⟩:=AJ (body:=λs:Int×Int=>II l s.1 s.2) (λ(o:Int) i=>(o,i)) l.length (λi o=>o=(vB (l.take i):Int)) (λb=>b=(vB l:Int))
  (λo i hi ho=>by
   have hx:=Ab hi;have et:l.take (i+1)=l.take i++ [l[i]]:=Aj hi;have a:(l.take i).length=i:=by grind
   simp only[II,DK hi,Au,hx,Aa];rw[ad1,i9];refine .inl ?_
   cases hb:fE l[i]with
   |true=>exact⟨(i:Int),rfl,by rw[et,RM,AH hb,a]⟩
   |false=>exact⟨o,rfl,by rw[et,RM,AO (by rw[hb];simp),ho]⟩)
  (λo ho=>⟨o,by simp only[II,D1],by grind⟩) (s:=0) rfl
 rw[h1,h2];simp only[Aa];have d:=vA l;have hd:dr l (vB l:Int) (ln l)=some (CO l):=by
  unfold dr;rw[Bh,AH (by omega),Ba,Ba,AK<|by simp];rfl
 rw[hd];simp only[Aa];obtain⟨b1,b2⟩:=T4 l;obtain⟨c,q1,q2⟩:=AJ (body:=λs:List Tx×Int=>IH (CO l) s.1 s.2) (λ(o:List Tx) i=>(o,i)) (CO l).length (λi o=>o=(CO l).take i) (λb=>b=CO l)
  (λo i hi ho=>by
   have hx:=Ab hi;have e:=hr _<|b2 _<|Az hi;have et:(CO l).take (i+1)=(CO l).take i++ [(CO l)[i]]:=Aj hi;simp only[IH,DK hi,Au,hx,Aa];rw[Mk (by omega),Aa,Bi (by grind),Aa,ad1]
   exact .inl ⟨_,rfl,by rw[et,<-ho]⟩)
  (λo ho=>⟨o,by simp only[IH,D1],by grind⟩) (s:=[]) rfl
 rw[q1,q2];rfl
theorem mW (h:fZ f r):TU f=some (Dk r-1):=by
 have a:=h.len;unfold TU;rw[h.i];simp only[Aa];obtain⟨b,h1,h2⟩:=AJ (body:=λs:Int×Int=>Ll r s.1 s.2) (λ(o:Int) i=>(o,i)) r.length (λi o=>o=Dk (r.take i)-1) (λb=>b=Dk r-1)
  (λo i hi ho=>by
   have hx:=Ab hi;have et:r.take (i+1)=r.take i++ [r[i]]:=Aj hi;simp only[Ll,DK hi,Au,hx,Aa];rw[ad1];refine .inl ⟨_,rfl,?_⟩;rw[et,Zk,ho]
   omega)
  (λo ho=>⟨o,by simp only[Ll,D1],by grind⟩) (s:=0) (by simp[Dk])
 rw[h1,h2];rfl
theorem uM (r:List Ap) (hr:GI r):Al (λs:Int×Int=>HT r s.1 s.2) (0,1)=some (Ey r):=by
 have a:=hr.len;obtain⟨b,h1,h2⟩:=AJ (body:=λs:Int×Int=>HT r s.1 s.2) (λ(o:Int) i=>(i,o)) r.length (λi o=>o=Ey (r.take i)) (λb=>b=Ey r)
  (λo i hi ho=>by
   have hx:=Ab hi;have ht:=hr.tx _<|Az hi;have et:r.take (i+1)=r.take i++ [r[i]]:=Aj hi;simp only[HT,DK hi,Au,hx,Aa];rw[ad1,Cy];refine .inl ?_;by_cases e:r[i].Page.Kind=2
   ·rw[show(r[i].Page.Kind==2)=true by simpa using e];refine⟨_,rfl,?_⟩;rw[et,VK,ho];omega
   rw[show(r[i].Page.Kind==2)=false by simpa using e];refine⟨_,rfl,?_⟩
   rw[et,VK,ho,AO λhh=>e hh.1])
  (λo ho=>⟨o,by simp only[HT,D1],by grind⟩) (s:=1) rfl
 rw[<-h2];exact h1
theorem bZ (l:List Tx) (hl:l.length<=1048576) (hr:∀x∈l,x.Recs.length<=20000):Al (λs:Int×List Vol×List Bs×Int×Int=>HS l s.1 s.2.1 s.2.2.1 s.2.2.2.1 s.2.2.2.2) (0,[],[],1,0)=Al (λs:Int×List Vol×List Bs×Int×Int=>D8 l s.1 s.2.1 s.2.2.1 s.2.2.2.1 s.2.2.2.2) (0,[],[],1,0):=by
 obtain⟨b,h1,h2,_⟩:=HF (body:=λs:Int×List Vol×List Bs×Int×Int=>D8 l s.1 s.2.1 s.2.2.1 s.2.2.2.1 s.2.2.2.2) (body':=λs:Int×List Vol×List Bs×Int×Int=>HS l s.1 s.2.1 s.2.2.1 s.2.2.2.1 s.2.2.2.2) (λ(o:Store×Int) i=>(i,o.1.Vols,o.1.Arena.Knots,o.1.Next,o.2)) l.length (λ_ o=>C5 o.1) (λ_=>True)
  (λo i hi hP=>by
   obtain⟨t,b0⟩:=o;have hx:=Ab hi;have d:=hr _<|Az hi;have c:Store.mk t.Vols (Arena.mk t.Arena.Knots) t.Next=t:=rfl;simp only[D8,HS,DK hi,Au,hx,Aa];rw[c,f7 hP _ (by omega),ad1];have a:=Y8 hP l[i].Recs (by omega);unfold Ri at a;obtain⟨j,hj⟩:∃j,(cond ((i:Int)==0) (some l[i].Num) (some b0):Option Int)=some j:=by
    cases((i:Int)==0)with
    |true=>exact⟨_,rfl⟩
    |false=>exact⟨_,rfl⟩
   rw[hj];split at a
   ·rw[a];exact⟨rfl,.inl ⟨(t,j),rfl,hP⟩⟩
   obtain⟨u,u1,u2,_⟩:=a;rw[u1]
   exact⟨rfl,.inl ⟨(u,j),rfl,u2⟩⟩)
  (λo _=>⟨by simp only[D8,HS,D1],(o.1.Vols,o.1.Arena.Knots,o.1.Next,o.2),by simp only[D8,D1],trivial⟩) (s:=(Store.mk [] (Arena.mk []) 1,0)) gO
 grind
theorem M6 (hf:Bx f):Kf f=C7 f:=by
 obtain⟨r,hs,_⟩:=ACC hf;have hr:=Xy hs hf;obtain⟨g1,g2⟩:=Vv hr;obtain⟨b1,b2⟩:=T4<|Be r;have a:=Om r;have b:Dk r<=1000000001:=a.2.2 _ (by omega) (λy hy=>by have:=(hr.seq y hy).2;omega);unfold Kf C7;rw[RA,Q7 hf,hs.s,hs.i,C4 f hf.cap,G0,C4 f hf.cap,mW hs];unfold Ov Rt;simp only[Aa,An,Ad];rw[Wj r hr,uM r hr,Pi r hr,Y1 r hr];simp only[Aa];rw[S4 _ g1 g2,bW _ g1 g2];simp only[Aa];rw[bZ (CO<|Be r) (by omega) λx hx=>g2 x<|b2 x hx,Cy,show Dk r-1+1=Dk r by omega]
theorem jE {r:Int} (h:C5 s) (hr:r∈Bu s):P3 s.Arena r=some (EF s.Arena.Knots r):=by
 obtain⟨l,l1,l2,_⟩:=Ty s.Arena (nJ h) r;rw[Oz s.Arena (by have:=h.few;omega) h.ar<|h.root r hr]at l1;rw[l2,l1]
theorem fM {a b:Store} (ha:C5 a) (hb:C5 b) (e:AM a=AM b) (n:a.Next=b.Next):Pw a b=some true:=by
 have f:=ha.len;have d:a.Vols.length=b.Vols.length:=by rw[<-IQ,<-IQ,e]
 unfold Pw;rw[show(ln a.Vols !=ln b.Vols)=false by rw[Bh,Bh,d];simp,show(a.Next !=b.Next)=false by rw[n];simp];obtain⟨q,h1,h2⟩:=AJ (body:=λs:Int=>IL a b s) (λ(_:Unit) i=>i) a.Vols.length (λ_ _=>True) (λq=>q= .inl ())
  (λ_ i hi _=>by
   have hx:=Ab hi;have hy:=Ab (show i<b.Vols.length by omega);have c:(AM a)[i]?=(AM b)[i]? :=by rw[e]
   unfold AM at c;rw[BX,BX,hx,hy]at c;simp only[BD,Av,oD]at c;obtain⟨e1,e2⟩:=c;simp only[IL,DK hi,Au,hx,hy,Aa];rw[jE hb (A6.2 ⟨_,Az (show i<b.Vols.length by omega),rfl⟩),jE ha<|A6.2 ⟨_,Az hi,rfl⟩,e1,e2];simp only[Aa,V8,Ad];generalize hR:EF b.Arena.Knots b.Vols[i].Root=R;have g:R.length=16:=by rw[<-hR];unfold EF;simp
   obtain⟨z,z1,z2⟩:=AJ (body:=λs:Int=>IK R R s) (λ(_:Unit) i=>i) R.length (λ_ _=>True) (λq=>q= .inl ())
    (λ_ k hk _=>by
     have hx:=Ab hk;simp only[IK,DK hk,Au,hx,Aa,V8,Ad];rw[ad1]
     simp)
    (λ_ _=>⟨_,by simp only[IK,D1],rfl⟩) (s:=()) trivial
   rw[z1,z2];rw[ad1]
   simp)
  (λ_ _=>⟨_,by simp only[IL,D1],rfl⟩) (s:=()) trivial
 rw[h1,h2];rfl
theorem m6 (h:He d r):R3 d=some true:=by
 obtain⟨m,m1,m2,m3⟩:=Ni h.fl h.sr;obtain⟨e1,e2,e3⟩:=Ip h m2 rfl;unfold R3;rw[M6 h.fl,m1];simp only[Aa,Ai];rw[Y0 h.st,fM m2.st h.st e1 e2];rw[m2.seq,h.seq,m2.tx,h.tx,e3];simp
end Go.TI
