/- What is planned for a drawn device is written. No condition; no program is in sight. -/
import Derived.Test.YtdhemppeejlbeabGreatWRP3
set_option linter.unusedVariables false
set_option linter.unusedSimpArgs false
namespace Go.TI
open Go
variable {d e d':Bc} {r r' a b:List A8} {n k m:Nat} {c:Ce} {f g:Flash} {T:List ByteArray} {p:Page} {code l:List Int} {y:A8} {s:Store}
theorem YF (h:LR d r):∃v,OK d=some v:=by
 have hr:=h.pages;have ht:1<=d.Tx/\d.Tx<=1000000001:=by
  rw [h.tx];have h1:=WK r;refine⟨h1.2.1,h1.2.2 _ (by omega) (λy hy _=>?_)⟩;have:=(hr.tx y hy).2;omega
 unfold OK
 cases(d.Base !=sb d.Tx 1)with
 |true=>exact⟨_,rfl⟩
 |false=>
  simp only [Ab];rw [h.scan.s];simp only [Aa];rw [Qt r hr];simp only [Aa];obtain⟨g1,_⟩:=SI hr;obtain⟨b,h1,_⟩:=Bg (body:=λs:Int=>Hv d (Bz r) s) (λ(_:Unit) i=>i) (Bz r).length (λ_ _=>True) (λ_=>True)
   (λ_ i hi _=>by
    have hx:=Ac hi;simp only [Hv,AC,Ad hi,Ae,A9,hx,Aa];rw [ad1 (by omega)]
    cases((Bz r)[i].Num==d.Base)with
    |false=>exact .inl ⟨(),by first|rfl|trivial,trivial⟩
    |true=>
     simp only [Ae]
     cases a:(Bz r)[i].Recs with
     |nil=>exact .inr ⟨_,rfl,trivial⟩
     |cons q m=>
      have hg:gi (q::m) 0=some q:=A9 (i:=0);rw [Ad (by rw [BG,A0];omega:ln (q::m)>0),hg]
      exact .inr ⟨_,rfl,trivial⟩)
   (λ_ _=>⟨.inl (),by simp only [Hv,AC,Ao,Aq,Ab],trivial⟩) (s:=()) trivial
  have h1':Au (λs:Int=>Hv d (Bz r) s) 0=some b:=h1;rw [h1']
  cases b with
  |inl u=>exact⟨_,rfl⟩
  |inr v=>exact⟨v,rfl⟩
theorem YJ (h:LR d r):∃v,ON d=some v:=by
 have hn:=h.fl.n;obtain⟨a,l1,_,_,l4⟩:=MH h.st;unfold ON;rw [h.scan.s,l1];simp only [Aa];rw [Ww r a d.Base h.scan.len l4,Ww r a 1000000000 h.scan.len l4];simp only [Aa]
 have c:∀b,a.foldl (nX r) (r.map (FD b))=Ih r a b:=λ_=>rfl
 rw [c,c];obtain⟨b,h1,_⟩:=Bg (body:=λs:Int×Int×Int=>Hz d r (Ih r a d.Base) (Ih r a 1000000000) s.1 s.2.1 s.2.2) (λ(o:Int×Int) i=>(o.1,o.2,i)) d.Flash.Blocks.length (λ_ _=>True) (λ_=>True)
  (λo i hi _=>by
   have hx:=Ac hi;have hP:=h.fl.blk _ (AE hi);simp only [Hz,AC,Ad hi,Ae,A9,hx,Aa];rw [tB r _ (i:Int) h.scan.len (R2 _ _ _),tB r _ (i:Int) h.scan.len (R2 _ _ _),MG _ hP.four,ad1 (by omega)];simp only [Aa,LB]
   cases(bif !d.Flash.Blocks[i].Bad then _ else false)with
   |true=>exact .inl ⟨(_,_),by first|rfl|trivial,trivial⟩
   |false=>exact .inl ⟨o,by first|rfl|trivial,trivial⟩)
  (λo _=>⟨o.1,by simp only [Hz,AC,Ao,Aq,Ab],trivial⟩) (s:=(-1,4)) trivial
 have h1':Au (λs:Int×Int×Int=>Hz d r (Ih r a d.Base) (Ih r a 1000000000) s.1 s.2.1 s.2.2) (-1,4,0)=some b:=h1;rw [h1'];exact⟨_,rfl⟩
theorem LR.seqs (h:LR d r):0<=d.Seq/\d.Seq<=1000000001:=by
 rw [h.seq];have h1:=NN r;refine⟨by omega,h1.2.2 _ (by omega) (λy hy=>?_)⟩;have:=(h.pages.seq y hy).2;omega
theorem bB (h:∀y∈r',y.Page.Kind=2->y.Page.Tx<D9 r+n):D9 r'<=D9 r+n:=(WK r').2.2 _ (by have:=(WK r).2.1;omega) h
theorem Wj (n:Nat) (hy:y∈r) (hk:y.Page.Kind=2):y.Page.Tx<D9 r+n:=by have:=(WK r).1 y hy hk;omega
theorem ZQ {seq tx:Int} (h:p∈CH seq tx T):p.Tx=tx:=by
 unfold CH at h;obtain⟨i,hi,rfl⟩:=AI h;rw [List.getElem_mapIdx]
theorem bK (h:∀y∈r',y.Page.Seq<Dg r+n):Dg r'<=Dg r+n:=(NN r').2.2 _ (by have:=(NN r).2.1;omega) h
theorem Wl (n:Nat) (hy:y∈r):y.Page.Seq<Dg r+n:=by have:=(NN r).1 y hy;omega
theorem kH {seq tx:Int} (h:p∈CH seq tx T):p.Seq<seq+T.length:=by
 unfold CH at h;obtain⟨i,hi,rfl⟩:=AI h;rw [Jg]at hi;rw [List.getElem_mapIdx];show seq+(i:Int)<_;omega
theorem Zp {c:Int} {a:ByteArray} (h:p∈D8 d c a++CH (JU d a) d.Tx T):p.Seq<d.Seq+1+T.length:=by
 rcases Aj.1 h with h|h
 ·unfold D8 at h;by_cases e:L a=[]
  ·rw [Ax e]at h;cases h
  rw [Ay e,Aw]at h;rw [h];show d.Seq<_;omega
 have h1:=kH h;have h2:JU d a<=d.Seq+1:=by unfold JU;split<;>omega
 omega
theorem Q9 {seq tx:Int} (h:p∈CH seq tx T):p.Kind=2:=by
 unfold CH at h;obtain⟨i,hi,rfl⟩:=AI h;rw [List.getElem_mapIdx]
def rC (m:Flash) (s:Bu) (g:Flash):Prop:=BN g/\WE m g/\((s.Kind=1/\Kg 0 g.Blocks=Kg 0 m.Blocks)\/(s.Kind=2/\Kg 0 g.Blocks=(Kg 0 m.Blocks).filter λy=>y.Block !=s.Block))
def Yd (f:Flash) (ss:List Bu) (k:Nat) (g:Flash):Prop:=∃m,Steps f (ss.take k) m/\(g=m\/∃s,ss[k]?=some s/\Qj m s/\rC m s g)
theorem RP:∀{f:Flash} {a:List Bu} {g m:Flash},Steps f a g->Steps f a m->g=m
 |f,[],g,m,h,k=>by rw [show g=f from h,show m=f from k]
 |f,s::a,g,m,h,k=>RP h.2 k.2
theorem qK {m:Flash} {a b:List Bu} (h:Yd f (a++b) k g) (hs:Steps f a m):(k<a.length/\Yd f a k g)\/(a.length<=k/\Yd m b (k-a.length) g):=by
 obtain⟨x,h1,h2⟩:=h;by_cases e:k<a.length
 ·left;rw [F6 (by omega)]at h1;rw [AM e]at h2;exact⟨e,x,h1,h2⟩
 right;rw [Vo,AO (by omega)]at h1;rw [AU (by omega)]at h2;obtain⟨y,y1,y2⟩:=(Mz _ _ _ _).1 h1;rw [RP y1 hs]at y2;exact⟨by omega,x,y2,h2⟩
structure Kw (n:Nat) (d:Bc) (r:List A8) (d':Bc) (r':List A8):Prop where
 good:Ni d' r'
 ab:BJ d'.Store=BJ d.Store
 nx:d'.Store.Next=d.Store.Next
 pg:∀y∈r',y.Page.Kind=1->∃z∈r,z.Page.Kind=1/\z.Page.Tx=y.Page.Tx/\z.Page.Text=y.Page.Text
 tx:D9 r'<=D9 r+n
 wear:∀w:Int,IP d.Flash w->IP d'.Flash (w+n)
 text:∀c,ER (BJ d.Store) c->Df r' c=Df r c
 sq:Dg r'<=Dg r+200*n
structure As (d:Bc) (r:List A8) (d':Bc) (r':List A8):Prop where
 good:Ni d' r'
 ab:BJ d'.Store=BJ d.Store
 nx:d'.Store.Next=d.Store.Next
 tx:D9 r'<=D9 r+1
 wear:∀w:Int,IP d.Flash w->IP d'.Flash (w+1)
 text:∀c,ER (BJ d.Store) c->Df r' c=Df r c
theorem As.torn (h:As d a e b) (hg:BN g) (hp:Kg 0 g.Blocks=Kg 0 e.Flash.Blocks) (hw:WE e.Flash g):∃x,CL g=some (x,true)/\x.Flash=g/\As d a x b:=by
 obtain⟨x,u1,u2,u3⟩:=Nb hg (r:=b) (by rw [hp];exact h.good.dev.sr);obtain⟨e1,e2,_⟩:=Jn h.good.dev u2 rfl;exact⟨x,u1,u3,⟨⟨u2,h.good.core,by rw [e1];exact h.good.data⟩,by rw [e1,h.ab],by rw [e2,h.nx],h.tx,λw hh=>by rw [u3];exact hw _ (h.wear w hh),h.text⟩⟩
theorem Wg (h:WE f g) (w:Int) (hw:IP f w):IP g (w+n):=λb hb=>by have:=h w hw b hb;omega
theorem Kw.refl (h:Ni d r):Kw n d r d r:=⟨h,rfl,rfl,λy hy hk=>⟨y,hy,hk,rfl,rfl⟩,by omega,Wg λ_ h=>h,λ_ _=>rfl,by omega⟩
theorem Kw.trans {g:Bc} {c:List A8} (h:Kw n d a e b) (k:Kw m e b g c):Kw (n+m) d a g c:=⟨k.good,by rw [k.ab,h.ab],by rw [k.nx,h.nx],λy hy hk=>by
 obtain⟨z,z1,z2,z3,z4⟩:=k.pg y hy hk;obtain⟨w,w1,w2,w3,w4⟩:=h.pg z z1 z2
 exact⟨w,w1,w2,by rw [w3,z3],by rw [w4,z4]⟩,by have:=h.tx;have:=k.tx;omega,λw hw=>by
 have:=k.wear _ (h.wear w hw);intro x hx;have:=this x hx
 omega,λc hc=>by rw [k.text c (by rw [h.ab];exact hc),h.text c hc],by have:=h.sq;have:=k.sq;omega⟩
theorem Kw.mono (h:Kw n d a e b) (hm:n<=m):Kw m d a e b:={h with
 tx:=by have:=h.tx;omega
 wear:=λw hw x hx=>by have:=h.wear w hw x hx;omega
 sq:=by have:=h.sq;omega}
theorem Kw.torn (h:Kw n d a e b) (hg:BN g) (hp:Kg 0 g.Blocks=Kg 0 e.Flash.Blocks) (hw:WE e.Flash g):∃x,CL g=some (x,true)/\x.Flash=g/\Kw n d a x b:=by
 obtain⟨x,u1,u2,u3⟩:=Nb hg (r:=b) (by rw [hp];exact h.good.dev.sr);obtain⟨e1,e2,_⟩:=Jn h.good.dev u2 rfl;exact⟨x,u1,u3,⟨⟨u2,h.good.core,by rw [e1];exact h.good.data⟩,by rw [e1,h.ab],by rw [e2,h.nx],h.pg,h.tx,λw hh=>by rw [u3];exact hw _ (h.wear w hh),h.text,h.sq⟩⟩
def NJ (n:Nat) (d:Bc) (r:List A8) (steps:List Bu):Prop:=(∃m,Steps d.Flash steps m)/\∀k g,k<=steps.length->Yd d.Flash steps k g->∃x rx,CL g=some (x,true)/\x.Flash=g/\Kw n d r x rx
theorem ZM {steps:List Bu} (h1:∀s∈steps,s.Kind=1) (hc:∀k,k<=steps.length->∃x rx,Steps d.Flash (steps.take k) x.Flash/\CL x.Flash=some (x,true)/\Kw n d r x rx):NJ n d r steps:=by
 refine⟨?_,λk g hk hg=>?_⟩
 ·obtain⟨x,rx,c1,_⟩:=hc steps.length (A4 _);rw [AN]at c1;exact⟨_,c1⟩
 obtain⟨x,rx,c1,c2,c3⟩:=hc k hk;obtain⟨m,m1,m2⟩:=hg;have:=RP m1 c1;subst this
 rcases m2 with rfl|⟨s,s1,_,s2,s3,⟨_,s4⟩|⟨s4,_⟩⟩
 ·exact⟨x,rx,c2,rfl,c3⟩
 ·obtain⟨y,y1,y2,y3⟩:=c3.torn s2 s4 s3;exact⟨y,rx,y1,y2,y3⟩
 have:=h1 s (A3 s1);omega
theorem NJ.full {steps:List Bu} (h:Ni d r) (hc:NJ n d r steps) (hl:steps.length<=1000000):∃x rx,Hg d steps=some x/\Steps d.Flash steps x.Flash/\Kw n d r x rx:=by
 obtain⟨⟨m,hm⟩,hk⟩:=hc;obtain⟨x,rx,x1,x2,x3⟩:=hk steps.length m (A4 _) ⟨m,by rw [AN];exact hm,.inl rfl⟩;exact⟨x,rx,OO h.dev hm (by omega) x1,by rw [x2];exact hm,x3⟩
theorem qW {re:List A8} {a b:List Bu} (hk:Kw n d r e re) (hs:Steps d.Flash a e.Flash) (ha:NJ n d r a) (hb:NJ m e re b):NJ (n+m) d r (a++b):=by
 refine⟨?_,λk g c hg=>?_⟩
 ·obtain⟨x,hx⟩:=hb.1;exact⟨x,(Mz _ _ _ _).2 ⟨_,hs,hx⟩⟩
 rw [Ag]at c
 rcases qK hg hs with⟨e1,e2⟩|⟨e1,e2⟩
 ·obtain⟨x,rx,x1,x2,x3⟩:=ha.2 k g (by omega) e2;exact⟨x,rx,x1,x2,x3.mono (by omega)⟩
 obtain⟨x,rx,x1,x2,x3⟩:=hb.2 _ g (by omega) e2;exact⟨x,rx,x1,x2,hk.trans x3⟩
theorem X5 (r m:List A8) (c:Int) (h:∀y∈m,¬(y.Page.Kind=1/\y.Page.Tx=c)):Kh (r++m) c=Kh r c:=by
 unfold Kh;rw [AS,B8.2 (λy hy hh=>h y hy (QK.1 hh)),Az]
theorem mR (h:Ni d r) (hw:IP d.Flash 999999999):∃steps ok,OX d=some (steps,ok)/\steps.length<=200/\(ok=false->steps=[])/\(ok=true->NJ 1 d r steps):=by
 have hv:=h.dev.st.vs;obtain⟨dead,d1,d2,d3⟩:=Xp h.dev;unfold OX;rw [d1];simp only [Aa]
 cases hd:dead with
 |cons b m=>
  rw [Ad (by rw [BG,A0];omega:ln (b::m)>0),show gi (b::m) 0=some b from A9 (i:=0)];simp only [Ae,Aa];refine⟨_,_,rfl,by simp,(λhh=>by cases hh),λ_=>?_⟩;obtain⟨x,x1,x2,x3⟩:=d3 b (by rw [hd];simp);have hc:uW d.Flash b:=⟨x,x1,x2,λe=>by have:=hw x (A3 (Dd x1).2);omega⟩;have hs:Qj d.Flash (Bu.mk 2 b 0 (bs [])):= .inr ⟨rfl,hc⟩;obtain⟨w1,w2⟩:=Vp h.dev.fl hc;have he:Jy d.Flash (Bu.mk 2 b 0 (bs []))=Tc d.Flash b:=by unfold Jy;rw [Ay (by simp)]
  have wp:∀g,BN g->Kg 0 g.Blocks=((Kg 0 d.Flash.Blocks).filter λy=>y.Block !=b)->(∀w:Int,IP d.Flash w->IP g (w+1))->∃x rx,CL g=some (x,true)/\x.Flash=g/\Kw 1 d r x rx:=by
   intro g g1 g2 g3;obtain⟨d',u1,u2,u3,u4,u5,_,u6⟩:=wD h x3 g1 g2;exact⟨d',_,u1,u2,u3,u4,u5,λy hy hk=>⟨y,(AT.1 hy).1,hk,rfl,rfl⟩,bB λy hy hk=>Wj _ (AT.1 hy).1 hk,by rw [u2];exact g3,u6,bK (n:=200*1) λy hy=>Wl _ (AT.1 hy).1⟩
  refine⟨⟨_,hs,rfl⟩,λk g hk hg=>?_⟩;obtain⟨q,q1,q2⟩:=hg
  cases k with
  |zero=>
   rw [show q=d.Flash from q1]at q2
   rcases q2 with rfl|⟨s,s1,_,s2,s3,⟨s4,_⟩|⟨_,s4⟩⟩
   ·obtain⟨x,u1,u2,u3⟩:=(Kw.refl (n:=1) h).torn h.dev.fl rfl λ_ hh=>hh
    exact⟨x,r,u1,u2,u3⟩
   ·simp only [CO,An]at s1;rw [<-s1]at s4;simp at s4
   simp only [CO,An]at s1;rw [<-s1]at s4
   exact wp g s2 s4 λw hh y hy=>by have:=s3 w hh y hy;omega
  |succ k=>
   have q1':Steps d.Flash [Bu.mk 2 b 0 (bs [])] q:=by simpa using q1
   have e:q=Tc d.Flash b:=by rw [show q=Jy d.Flash (Bu.mk 2 b 0 (bs []))from q1'.2,he]
   rcases q2 with rfl|⟨s,s1,_⟩
   ·rw [e]
    exact wp _ w1 w2 λw hh=>by rw [<-he];exact Z3 hh (by omega) (.inr (F7 _))
   simp at s1
 |nil=>
  rw [show decide (ln ([]:List Int)>0)=false from rfl];simp only [Ab];obtain⟨v,v1⟩:=YF h.dev;rw [v1];simp only [Aa]
  cases v with
  |false=>
   simp only [AG,Ae];unfold Qw;rw [cF h.dev.st];simp only [Aa];obtain⟨b1,b2⟩:=qN hv
   rcases Ul h.dev.fl h.dev.seqs (LU (BJ d.Store) d.Store.Next) (by unfold LU;simp) b2 b1 (bs [])with w|⟨steps,T,g,f,w1,w2,w3,w4,w5,w6,w7,w8,w9⟩
   ·rw [w];exact⟨_,_,rfl,by simp,λ_=>rfl,λhh=>by cases hh⟩
   rw [w2];simp only [Aa];have j:=(Gk w7).2;have o:(CH (JU d (bs [])) d.Tx T).length=T.length:=by unfold CH;rw [Jg]
   have l:D8 d f.Chunk (bs [])=[]:=by unfold D8;rw [Ax (DV _)]
   rw [l,A6,o]at j;refine⟨_,_,rfl,by omega,(λhh=>by cases hh),λ_=>ZM (PG w7) λk hk=>?_⟩;obtain⟨m,d',r',c1,c2,c3,c4,c5,rfl,cw,c6,c7,c8,c9⟩:=Uw h b1 w3 w4 w5 w6 w7 w9 (λhh=>absurd (DV _) hh) k hk;have a:BJ d'.Store=BJ d.Store/\d'.Store.Next=d.Store.Next:=by
    by_cases e:k<steps.length
    ·obtain⟨e1,e2,_⟩:=Jn h.dev c4 (by rw [c8 e]);exact⟨e1,e2⟩
    obtain⟨q,hq⟩:=(c9 (by omega)).1;have hB:aB (Tx.mk d.Tx q (LU (BJ d.Store) d.Store.Next))=true:=rfl;have a:=c4.ab;rw [hq,Ro,Ax hB]at a;have:KJ [Tx.mk d.Tx q (LU (BJ d.Store) d.Store.Next)]=(BJ d.Store,d.Store.Next):=by
     show(CV [] 1 (LU (BJ d.Store) d.Store.Next)).getD ([],1)=_;rw [aO hv];rfl
    rw [this]at a
    injection a with e1 e2
    exact⟨e1,e2⟩
   have hX:∀y∈(C4 steps (D8 d f.Chunk (bs [])++CH (JU d (bs [])) d.Tx T)).take k,y.Page.Kind=2/\y.Page.Tx=d.Tx:=λy hy=>by
    have cP:=MO _ _ _ y hy;rw [l,A6]at cP;exact⟨Q9 cP,ZQ cP⟩
   refine⟨d',_,by rw [c5];exact c1,by rw [c5];exact c3,⟨c4,c6,by rw [a.1];exact c7⟩,a.1,a.2,λy hy hk=>?_,bB λy hy hk=>?_,by rw [c5];exact Wg (n:=1) cw,λc hc=>?_,bK (n:=200*1) λy hy=>?_⟩
   ·rcases Aj.1 hy with hh|hh
    ·exact⟨y,hh,hk,rfl,rfl⟩
    have:=(hX y hh).1;omega
   ·rcases Aj.1 hy with hh|hh
    ·exact Wj _ hh hk
    rw [(hX y hh).2,h.dev.tx];omega
   ·unfold Df;rw [X5 _ _ _ λy hy hh=>by have:=(hX y hy).1;omega]
   rcases Aj.1 hy with hh|hh
   ·exact Wl _ hh
   have:=Zp (MO _ _ _ y hh);rw [h.dev.seq]at this;omega
  |true=>
   simp only [Ai,Ab];obtain⟨vi,vi1⟩:=YJ h.dev;rw [vi1];simp only [Aa]
   cases decide (vi<0)with
   |true=>exact⟨_,_,rfl,by simp,λ_=>rfl,λhh=>by cases hh⟩
   |false=>
    simp only [Ab]
    rcases YQ h.dev h.few vi with w|⟨steps,ps,g,w1,w2,w3,w4,w5,w6,w7⟩
    ·rw [w];exact⟨_,_,rfl,by simp,λ_=>rfl,λhh=>by cases hh⟩
    rw [w1];refine⟨steps,true,rfl,by omega,(λhh=>by cases hh),λ_=>ZM (PG w2) λk hk=>?_⟩;obtain⟨m,d',c1,c2,c3,c4,c5,c6,_,cw,c7⟩:=tO h w2 w4 w5 w6 k;refine⟨d',_,by rw [c4];exact c1,by rw [c4];exact c3,c5,c6.ab,c6.nx,λy hy hk=>?_,bB λy hy hk=>?_,by rw [c4];exact Wg (n:=1) cw,c7,bK (n:=200*1) λy hy=>?_⟩
    ·rcases Aj.1 hy with hh|hh
     ·exact⟨y,hh,hk,rfl,rfl⟩
     obtain⟨⟨_,_,z,z1,z2⟩,_⟩:=w6 _ (MO _ _ _ _ hh);obtain⟨a1,a2,a3⟩:=TL z1;exact⟨z,a1,a2,a3,z2.symm⟩
    ·rcases Aj.1 hy with hh|hh
     ·exact Wj _ hh hk
     have:=(w6 _ (MO _ _ _ _ hh)).1.1;omega
    rcases Aj.1 hy with hh|hh
    ·exact Wl _ hh
    have:=w7 _ (MO _ _ _ _ hh);rw [h.dev.seq]at this;omega
theorem Vn (h:BN f):∃v:Int,MF f=some v:=by
 obtain⟨v,v1,_⟩:=qQ f h.cap (by have:=h.few;omega);exact⟨v,v1⟩
theorem mS (h:Ni d r) (hw:IP d.Flash 999999000) (most:Int):∃d' all r',MJ d most=some (d',all)/\Kw 20 d r d' r'/\all.length<=4000/\Steps d.Flash all d'.Flash/\NJ 20 d r all:=by
 unfold MJ;rw [Vu h.dev];simp only [Aa]
 have l:∀{n:Nat} {a:List Bu},n<=20->NJ n d r a->NJ 20 d r a:=λhn hc=>⟨hc.1,λk g hk hg=>by
  obtain⟨x,rx,x1,x2,x3⟩:=hc.2 k g hk hg
  exact⟨x,rx,x1,x2,x3.mono hn⟩⟩
 obtain⟨b,h1,d',all,r',h2,h3,h4,h5,h6⟩:=Bg (body:=λs:List Bu×Int×List Block×List Vol×List BL×Int×Int×Int×Int=>H3 most s.1 s.2.1 s.2.2.1 s.2.2.2.1 s.2.2.2.2.1 s.2.2.2.2.2.1 s.2.2.2.2.2.2.1 s.2.2.2.2.2.2.2.1 s.2.2.2.2.2.2.2.2)
  (λ(o:List Bu×Bc) i=>(o.1,i,o.2.Flash.Blocks,o.2.Store.Vols,o.2.Store.Arena.Knots,o.2.Store.Next,o.2.Seq,o.2.Tx,o.2.Base)) 20
  (λi o=>o.1.length<=200*i/\∃r',Kw i d r o.2 r'/\Steps d.Flash o.1 o.2.Flash/\NJ i d r o.1)
  (λb=>∃d' all r',(b= .inr (d',all)\/b= .inl (all,d'.Flash.Blocks,d'.Store.Vols,d'.Store.Arena.Knots,d'.Store.Next,d'.Seq,d'.Tx,d'.Base))/\Kw 20 d r d' r'/\all.length<=4000/\Steps d.Flash all d'.Flash/\NJ 20 d r all)
  (λo i hi hs=>by
   obtain⟨all,e⟩:=o;obtain⟨j,r',hg,c,f⟩:=hs;simp only at j hg c f;have m:Bc.mk (Flash.mk e.Flash.Blocks) (Store.mk e.Store.Vols (Arena.mk e.Store.Arena.Knots) e.Store.Next) e.Seq e.Tx e.Base=e:=rfl;have p:Flash.mk e.Flash.Blocks=e.Flash:=rfl;simp only [H3];rw [m,p];obtain⟨v,v1⟩:=Vn hg.good.dev.fl;rw [v1,Ad (by omega:(i:Int)<20)];simp only [Ae,Aa,LB]
   cases(bif decide ((i:Int)<most)then decide (v<12)else false)with
   |false=>
    simp only [Ab];exact .inr ⟨_,rfl,e,all,r',.inr rfl,hg.mono (by omega),by omega,c,l (by omega) f⟩
   |true=>
    simp only [Ae];obtain⟨steps,ok,c1,c2,_,c3⟩:=mR hg.good (λx hx=>by have:=hg.wear _ hw x hx;omega);rw [c1];simp only [Aa]
    cases ok with
    |false=>
     simp only [AG,Ae];exact .inr ⟨_,rfl,e,all,r',.inl rfl,hg.mono (by omega),by omega,c,l (by omega) f⟩
    |true=>
     obtain⟨d',r2,k1,k2,k3⟩:=(c3 rfl).full hg.good (by omega);simp only [Ai,Ab];rw [k1];simp only [Aa];rw [Cn (by omega),ad1 (by omega)]
     exact .inl ⟨(all++steps,d'),rfl,by simp;omega,r2,hg.trans k3,(Mz _ _ _ _).2 ⟨_,c,k2⟩,qW hg c f (c3 rfl)⟩)
  (λo hs=>by
   obtain⟨all,e⟩:=o;obtain⟨j,r',hg,c,f⟩:=hs;refine⟨.inl (all,e.Flash.Blocks,e.Store.Vols,e.Store.Arena.Knots,e.Store.Next,e.Seq,e.Tx,e.Base),?_,e,all,r',.inr rfl,hg,by simpa using j,c,f⟩;simp only [H3];rw [Af (by omega:¬((20:Nat):Int)<20)]
   cases decide (((20:Nat):Int)<most)<;>rfl) (s:=([],d)) ⟨by simp,r,Kw.refl h,rfl,⟨⟨_,rfl⟩,λk g hk hg=>by
   obtain⟨q,q1,q2⟩:=hg;rw [List.take_nil]at q1;rw [show q=d.Flash from q1]at q2
   rcases q2 with rfl|⟨s,s1,_⟩
   ·obtain⟨x,u1,u2,u3⟩:=(Kw.refl (n:=0) h).torn h.dev.fl rfl λ_ hh=>hh
    exact⟨x,r,u1,u2,u3⟩
   simp at s1⟩⟩
 have h1':Au (λs:List Bu×Int×List Block×List Vol×List BL×Int×Int×Int×Int=>H3 most s.1 s.2.1 s.2.2.1 s.2.2.2.1 s.2.2.2.2.1 s.2.2.2.2.2.1 s.2.2.2.2.2.2.1 s.2.2.2.2.2.2.2.1 s.2.2.2.2.2.2.2.2) ([],0,d.Flash.Blocks,d.Store.Vols,d.Store.Arena.Knots,d.Store.Next,d.Seq,d.Tx,d.Base)=some b:=h1;rw [h1']
 rcases h2 with rfl|rfl
 ·exact⟨d',all,r',rfl,h3,h4,h5,h6⟩
 exact⟨d',all,r',rfl,h3,h4,h5,h6⟩
theorem sC {K:Ks} {r:Int} (h:k<16):(EQ K r)[k]?=some (PR K r k):=by unfold EQ;exact H6 h
theorem fR (h:Dn s) (vol:Int) (hk:k<16):∃c,Oh s vol (k:Int)=some c/\((Kn (BJ s) vol=none/\c=0)\/∃a,Kn (BJ s) vol=some a/\a[k]?=some c/\0<=c/\(c≠0->ER (BJ s) c)):=by
 have hl:=h.len;unfold Oh
 rcases Fp s (by omega) vol with⟨e,e2⟩|⟨i,v,e,e2,e3,_⟩
 ·rw [e];exact⟨0,rfl,.inl ⟨KM.1 e2,rfl⟩⟩
 rw [e];simp only [Aa];have hm:=A3 e2;have hr:=h.root _ (AJ.2 ⟨v,hm,rfl⟩);rw [Af (by omega),Ab,A9,e2];simp only [Aa];rw [Xk _ (by have:=h.few;omega) h.ar hr hk];have hg:=Ow h.asc hm;rw [e3]at hg;have h0:=iF h.ar hr _ (Yi hk);exact⟨_,rfl,.inr ⟨_,hg,sC hk,h0,λb=>⟨by omega,_,AJ.2 ⟨v,hm,rfl⟩,Yi hk⟩⟩⟩
theorem e9 (h:Ni d r) (vol:Int) (hk:k<16):(Kn (BJ d.Store) vol=none/\Mq r d.Store vol (k:Int)=some (bs [],false))\/
  ∃a c,Kn (BJ d.Store) vol=some a/\a[k]?=some c/\Oh d.Store vol (k:Int)=some c/\((c=0/\Mq r d.Store vol (k:Int)=some (bs [],true))\/(0<c/\ER (BJ d.Store) c/\∃u,Df r c=some u/\Mq r d.Store vol (k:Int)=some (u,true))):=by
 have hl:=h.dev.st.len;obtain⟨c,c1,c2⟩:=fR h.dev.st vol hk;unfold Mq;rw [c1]
 rcases Fp d.Store (by omega) vol with⟨e,e2⟩|⟨i,v,e,e2,e3,_⟩
 ·rw [e];exact .inl ⟨KM.1 e2,rfl⟩
 have hg:=Ow h.dev.st.asc (A3 e2);rw [e3]at hg
 rcases c2 with⟨c2,_⟩|⟨a,c2,c3,c4,c5⟩
 ·rw [hg]at c2;cases c2
 rw [e];simp only [Aa];rw [Af (by omega),Ab];right;refine⟨a,c,c2,c3,rfl,?_⟩;by_cases e0:c=0
 ·rw [show(c==0)=true by simpa using e0];exact .inl ⟨e0,rfl⟩
 rw [show(c==0)=false by simpa using e0];simp only [Ab];have b:=c5 e0;obtain⟨u,hu⟩:=h.data.data c b;obtain⟨w,ok,t1,t2⟩:=fF h.dev.pages c;rw [t1];rw [hu]at t2
 cases ok with
 |false=>cases t2
 |true=>
  rw [Ax rfl]at t2
  injection t2 with t2
  exact .inr ⟨by omega,b,u,hu,by rw [t2];rfl⟩
theorem mH (h:LR d r) {q:Y7} {a:List De} {b:ByteArray} (hp:IY d q=some (a,b,0)):ABJ q:=by
 obtain⟨v,a1,a2⟩:=UD q
 cases v with
 |true=>exact a2 rfl
 |false=>
  unfold IY at hp;rw [a1]at hp;simp at hp
def iY (r r':List A8) (c:Int) (a:ByteArray):Prop:=(∀y∈r',y.Page.Kind=1->(∃z∈r,z.Page.Kind=1/\z.Page.Tx=y.Page.Tx/\z.Page.Text=y.Page.Text)\/(L a≠ []/\y.Page.Tx=c/\y.Page.Text=a))/\D9 r'<=D9 r+1/\Dg r'<=Dg r+10
theorem mV {x:De} (h:Ni d r) {q:Y7} {b:ByteArray} (hx:zP d r q x b):D4 d [x] b=some ([],false)\/∃steps d' r',D4 d [x] b=some (steps,true)/\steps.length<=10/\Hg d steps=some d'/\Ni d' r'/\
  (BJ d'.Store,d'.Store.Next)=(D7 (BJ d.Store) d.Store.Next x).getD (BJ d.Store,d.Store.Next)/\d.Store.Next<=d'.Store.Next/\d'.Store.Next<=d.Store.Next+1/\iY r r' x.Chunk b/\WE d.Flash d'.Flash/\Steps d.Flash steps d'.Flash/\1<=steps.length/\∀k g,k<steps.length->Yd d.Flash steps k g->∃y ry,CL g=some (y,true)/\y.Flash=g/\As d r y ry/\iY r ry x.Chunk b:=by
 obtain⟨x1,x2,xv,x3⟩:=hx;have h7:=h.dev.st.nx
 have i:∀z∈ [x],Gx z=true:=λz hz=>by rw [Aw]at hz;rw [hz];exact x1
 rcases Ul h.dev.fl h.dev.seqs [x] (by simp) (by simp) i b with w|⟨steps,T,g,a,w1,w2,w3,w4,w5,w6,w7,w8,w9⟩
 ·exact .inl w
 right;have j:a=x:=by simpa using w1.symm
 subst j;have t:=(Gk w7).2;have h3:(CH (JU d b) d.Tx T).length=T.length:=by unfold CH;rw [Jg]
 have h8:(D8 d a.Chunk b).length<=1:=by unfold D8;split<;>simp
 rw [Ag,h3]at t
 have l:L b≠ []->¬ER (BJ d.Store) a.Chunk:=λht h4=>by
  rcases x3 with⟨x3,_⟩|⟨_,x4,_⟩
  ·exact ht x3
  have:=Wx h.dev.st h4;omega
 have fw:∀k,iY r (r++(C4 steps (D8 d a.Chunk b++CH (JU d b) d.Tx T)).take k) a.Chunk b:=λk=>by
  have cP:∀y∈r++(C4 steps (D8 d a.Chunk b++CH (JU d b) d.Tx T)).take k,y∈r\/y.Page∈D8 d a.Chunk b++CH (JU d b) d.Tx T:=λy hy=>(Aj.1 hy).imp id (MO _ _ _ y)
  refine⟨λy hy hk=>?_,bB (n:=1) λy hy hk=>?_,bK (n:=10) λy hy=>?_⟩
  ·rcases cP y hy with hh|hh
   ·exact .inl ⟨y,hh,hk,rfl,rfl⟩
   rcases Aj.1 hh with hh|hh
   ·unfold D8 at hh;by_cases e:L b=[]
    ·rw [Ax e]at hh;cases hh
    rw [Ay e,Aw]at hh;exact .inr ⟨e,by rw [hh],by rw [hh]⟩
   have:=Q9 hh;omega
  ·rcases cP y hy with hh|hh
   ·exact Wj _ hh hk
   rcases Aj.1 hh with hh|hh
   ·unfold D8 at hh;by_cases e:L b=[]
    ·rw [Ax e]at hh;cases hh
    rw [Ay e,Aw]at hh;rw [hh]at hk;cases hk
   rw [ZQ hh,h.dev.tx];omega
  rcases cP y hy with hh|hh
  ·exact Wl _ hh
  have:=Zp hh;rw [h.dev.seq]at this;omega
 have cut:∀k g,k<steps.length->Yd d.Flash steps k g->∃y ry,CL g=some (y,true)/\y.Flash=g/\As d r y ry/\iY r ry a.Chunk b:=λk g hk hg=>by
  obtain⟨m,y,ry,c1,c2,c3,c4,c5,hr',cw,c6,c7,c8,_⟩:=Uw h i w3 w4 w5 w6 w7 w9 l k (by omega);obtain⟨e1,e2,_⟩:=Jn h.dev c4 (by rw [c8 hk]);subst hr'
  have u:As d r y (r++(C4 steps (D8 d a.Chunk b++CH (JU d b) d.Tx T)).take k):=⟨⟨c4,c6,by rw [e1];exact c7⟩,e1,e2,(fw k).2.1,by rw [c5];exact Wg (n:=1) cw,λc hc=>by
   unfold Df;rw [X5 _ _ _ λz hz hh=>?_];have h5:=MO _ _ _ z hz
   rcases Aj.1 h5 with hh2|hh2
   ·unfold D8 at hh2;by_cases e:L b=[]
    ·rw [Ax e]at hh2;cases hh2
    rw [Ay e,Aw]at hh2;refine l e ?_;have:=hh.2;rw [hh2]at this;rw [show a.Chunk=c from this];exact hc
   have:=Q9 hh2
   omega⟩
  obtain⟨q,q1,q2⟩:=hg;have:=RP q1 c1;subst this
  rcases q2 with rfl|⟨s,s1,_,s2,s3,⟨_,s4⟩|⟨s4,_⟩⟩
  ·exact⟨y,_,c3,c5,u,fw k⟩
  ·obtain⟨z,z1,z2,z3⟩:=u.torn s2 (by rw [c5];exact s4) (by rw [c5];exact s3);exact⟨z,_,z1,z2,z3,fw k⟩
  have:=PG w7 s (A3 s1);omega
 obtain⟨m,d',r',c1,c2,c3,c4,c5,hr',cw,c6,c7,_,c9⟩:=Uw h i w3 w4 w5 w6 w7 w9 l steps.length (A4 _);rw [<-c5]at cw;rw [AN]at c1;have v:Steps d.Flash steps d'.Flash:=by rw [c5];exact c1
 have h0:iY r r' a.Chunk b:=by rw [hr'];exact fw _
 obtain⟨⟨qn,hq⟩,c10⟩:=c9 rfl;have hB:¬aB (Tx.mk d.Tx qn [a])=true:=by
  unfold aB;simpa using x2
 have f:=c4.ab;rw [hq,Ro,Ay hB,X7,<-h.dev.ab]at f;have h6:CV (BJ d.Store) d.Store.Next [a]=D7 (BJ d.Store) d.Store.Next a:=by
  rw [EI];cases D7 (BJ d.Store) d.Store.Next a<;>rfl
 simp only [h6]at f;have h1:=OO h.dev c1 (by omega) c3
 cases o:D7 (BJ d.Store) d.Store.Next a with
 |none=>
  rw [o]at f;have e1:BJ d'.Store=BJ d.Store:=BR Prod.fst f;have e2:d'.Store.Next=d.Store.Next:=BR Prod.snd f;exact⟨steps,d',r',w2,by omega,h1,⟨c4,c6,by rw [e1];exact c7⟩,by rw [e1,e2];rfl,by omega,by omega,h0,cw,v,by omega,cut⟩
 |some p=>
  obtain⟨l',nx'⟩:=p;rw [o]at f;have e1:BJ d'.Store=l':=BR Prod.fst f;have e2:d'.Store.Next=nx':=BR Prod.snd f;obtain⟨v1,v2,v3⟩:=hZ o x2
  have hz:∀c,ER l' c->c=a.Chunk->a.Kind≠4->False:=λc hc h9 hk=>by
   have:a.Chunk=0:=by
    have hb:=x1;unfold Gx at hb;rw [show(a.Kind==1)=false by simpa using x2,show(a.Kind==4)=false by simpa using hk]at hb;simp at hb;omega
   have:=hc.1;omega
  have h2:a.Chunk<=d.Store.Next:=by
   by_cases hk:a.Kind=4
   ·rcases x3 with⟨_,x4⟩|⟨_,x4,_⟩
    ·have:=Wx h.dev.st (x4 hk).1;omega
    omega
   have hb:=x1;unfold Gx at hb;rw [show(a.Kind==1)=false by simpa using x2,show(a.Kind==4)=false by simpa using hk]at hb;simp at hb;omega
  refine⟨steps,d',r',w2,by omega,h1,⟨c4,c6,?_⟩,by rw [e1,e2];rfl,by omega,by omega,h0,cw,v,by omega,cut⟩;rw [e1]
  rcases x3 with⟨x3,x4⟩|⟨x3,x4,x5,x6,x7⟩
  ·refine c7.mono λc hc=>?_
   rcases v1 c hc with hh|hh
   ·exact hh
   by_cases hk:a.Kind=4
   ·rw [hh];exact(x4 hk).1
   exact absurd trivial (λ_=>hz c hc hh hk)
  exact(c10 _ x6 x5 x7).mono v1
def vQ (r r':List A8) (nx:Int) (a:ByteArray):Prop:=(∀y∈r',y.Page.Kind=1->(∃z∈r,z.Page.Kind=1/\z.Page.Tx=y.Page.Tx/\z.Page.Text=y.Page.Text)\/(y.Page.Tx=nx/\Ux y.Page.Text=some a))/\D9 r'<=D9 r+21/\Dg r'<=Dg r+4010
def AA2 (d d':Bc) (v:Int):Prop:=∀p∈BJ d'.Store,(∃p'∈BJ d.Store,p'.1=p.1)\/p.1=v
theorem Kw.q (h:Kw n d r e r') (hn:n<=20) (nx:Int) (t:ByteArray):vQ r r' nx t:=⟨λy hy hk=> .inl (h.pg y hy hk),by have:=h.tx;omega,by have:=h.sq;omega⟩
theorem L6 (h:BJ d'.Store=BJ d.Store) (v:Int):AA2 d d' v:=λp hp=> .inl ⟨p,by rw [<-h];exact hp,rfl⟩
theorem zA (h:Ni d r) (hw:IP d.Flash 999999000) (q:Y7):∃d' steps t no r',Wo d q=some (d',steps,t,no)/\Ni d' r'/\d.Store.Next<=d'.Store.Next/\d'.Store.Next<=d.Store.Next+1/\vQ r r' d.Store.Next q.Text/\AA2 d d' q.Vol/\∀w:Int,IP d.Flash w->IP d'.Flash (w+20):=by
 have a:Kw 20 d r d r:=Kw.refl h;unfold Wo;rw [Vu h.dev,T8 h.dev];simp only [Aa,Ai,Ab];obtain⟨v,h0,no,p1,p2,p3⟩:=Y1 h.dev q;rw [p1];simp only [Aa]
 cases f:(no !=0)with
 |true=>exact⟨_,_,_,_,r,rfl,h,by omega,by omega,a.q (by omega) _ _,L6 rfl _,a.wear⟩
 |false=>
  have g:no=0:=by simpa using f
  subst g;have hq:=mH h.dev p1;simp only [Ab]
  cases h1:(q.Kind==6)with
  |true=>
   simp only [Ae];obtain⟨k,hk⟩:∃k:Nat,q.Sector=(k:Int):=⟨_,(Bm hq.sec.1).symm⟩;unfold Xg;rw [h.dev.scan.s,hk];simp only [Aa]
   rcases e9 h q.Vol (k:=k) (by have:=hq.sec;omega)with⟨_,e⟩|⟨h2,c,_,_,_,⟨_,e⟩|⟨_,_,u,_,e⟩⟩
   ·rw [e];exact⟨_,_,_,_,r,rfl,h,by omega,by omega,a.q (by omega) _ _,L6 rfl _,a.wear⟩
   ·rw [e];exact⟨_,_,_,_,r,rfl,h,by omega,by omega,a.q (by omega) _ _,L6 rfl _,a.wear⟩
   rw [e];exact⟨_,_,_,_,r,rfl,h,by omega,by omega,a.q (by omega) _ _,L6 rfl _,a.wear⟩
  |false=>
   simp only [Ab];obtain⟨v5,i⟩:=Vn h.dev.fl;rw [i];simp only [Aa];have clean:∃e all re,(bif(decide (v5<12))then((MJ d 20).bind λv6=>some (v6.2,v6.1.Flash.Blocks,v6.1.Store.Vols,v6.1.Store.Arena.Knots,v6.1.Store.Next,v6.1.Seq,v6.1.Tx,v6.1.Base))else(some ([],d.Flash.Blocks,d.Store.Vols,d.Store.Arena.Knots,d.Store.Next,d.Seq,d.Tx,d.Base)):Option (List Bu×List Block×List Vol×List BL×Int×Int×Int×Int))=some (all,Flash.Blocks (Bc.Flash e),e.Store.Vols,e.Store.Arena.Knots,e.Store.Next,e.Seq,e.Tx,e.Base)/\Kw 20 d r e re/\all.length<=4000:=by
    cases decide (v5<12)with
    |false=>exact⟨d,[],r,rfl,a,by simp⟩
    |true=>
     obtain⟨e,all,re,k1,k2,k3,_⟩:=mS h hw 20;simp only [Ae];rw [k1];exact⟨e,all,re,rfl,k2,k3⟩
   obtain⟨e,all,re,k1,k5,k4⟩:=clean;have k2:=k5.good;rw [k1];simp only [Aa];have j:Bc.mk (Flash.mk e.Flash.Blocks) (Store.mk e.Store.Vols (Arena.mk e.Store.Arena.Knots) e.Store.Next) e.Seq e.Tx e.Base=e:=rfl;have l:Flash.mk e.Flash.Blocks=e.Flash:=rfl;rw [j,l];obtain⟨recs2,text2,no2,s1,s2,_⟩:=Y1 k2.dev q;rw [s1];simp only [Aa];obtain⟨v9,m⟩:=Vn k2.dev.fl;rw [m];have n:=k5.nx
   rcases s2 with⟨rfl,rfl⟩|⟨_,x,rfl,s2⟩
   ·have hw:D4 e [] (bs [])=some ([],true):=rfl;rw [hw];simp only [Aa,Ai,Ab]
    cases decide (v9<8)with
    |true=>exact⟨_,_,_,_,re,rfl,k2,by omega,by omega,k5.q (by omega) _ _,L6 k5.ab _,k5.wear⟩
    |false=>
     simp only [Ab];obtain⟨d',u1,u2,u3⟩:=Nb k2.dev.fl k2.dev.sr;obtain⟨e1,e2,_⟩:=Jn k2.dev u2 rfl;rw [OO k2.dev (steps:=[]) rfl (by simp) u1];simp only [Aa];rw [Cn (by simp;omega)];exact⟨_,_,_,_,re,rfl,⟨u2,k2.core,by rw [e1];exact k2.data⟩,by omega,by omega,k5.q (by omega) _ _,L6 (by rw [e1,k5.ab]) _,by rw [u3];exact k5.wear⟩
   rcases mV k2 s2 with w|⟨steps,d',r',w1,w2,w3,w4,w7,w5,w6,w8,w9,_⟩
   ·rw [w];exact⟨_,_,_,_,re,rfl,k2,by omega,by omega,k5.q (by omega) _ _,L6 k5.ab _,k5.wear⟩
   rw [w1];simp only [Aa,Ai,Ab]
   cases decide (v9<8)with
   |true=>exact⟨_,_,_,_,re,rfl,k2,by omega,by omega,k5.q (by omega) _ _,L6 k5.ab _,k5.wear⟩
   |false=>
    simp only [Ab];rw [w3];simp only [Aa];rw [Cn (by omega)];refine⟨_,_,_,_,r',rfl,w4,by omega,by omega,⟨λy hy hk=>?_,by have:=w8.2.1;have:=k5.tx;omega,by have:=w8.2.2;have:=k5.sq;omega⟩,λp hp=>?_,λw hh=>w9 _ (k5.wear w hh)⟩
    ·rcases w8.1 y hy hk with⟨z,z1,z2,z3,z4⟩|⟨t1,t2,t3⟩
     ·obtain⟨w,a1,a2,a3,a4⟩:=k5.pg z z1 z2;exact .inl ⟨w,a1,a2,by rw [a3,z3],by rw [a4,z4]⟩
     obtain⟨_,_,_,s3⟩:=s2
     rcases s3 with⟨s3,_⟩|⟨_,s4,_,s5,_⟩
     ·exact absurd s3 t1
     exact .inr ⟨by rw [t2,s4,n],by rw [t3,s5]⟩
    have e1:=BR Prod.fst w7;simp only at e1;rw [e1]at hp
    cases b:D7 (BJ e.Store) e.Store.Next x with
    |none=>
     rw [b]at hp;exact .inl ⟨p,by rw [<-k5.ab];exact hp,rfl⟩
    |some lp=>
     rw [b]at hp;obtain⟨l',nx'⟩:=lp;have o:p∈l':=hp
     rcases lI b s2.2.1 p o with⟨p',q1,q2⟩|hh
     ·exact .inl ⟨p',by rw [<-k5.ab];exact q1,q2⟩
     exact .inr (by rw [hh,s2.2.2.1])
structure LD (c:Ce):Prop where
 i0:0<=c.i_
 i1:c.i_<=(c.b_.length:Int)
 len:c.b_.length<=1048576
theorem vA (a:Int):0<=ban .i64 a 255/\ban .i64 a 255<=255:=by
 unfold ban;have h:(BitVec.ofInt IntKind.i64.bits a&&&BitVec.ofInt IntKind.i64.bits 255).toNat<=255:=by
  rw [BitVec.toNat_and];refine HH Nat.and_le_right ?_;exact Nat.le_of_eq rfl
 rw [NK (by omega) (by omega)];omega
theorem Y6 (h:LD c):∃v c',J8 c=some (v,c')/\LD c'/\0<=v/\v<=255:=by
 have:=h.i0;have:=h.i1;have:=h.len;unfold J8;by_cases e:c.i_<ln c.b_
 ·rw [Ad e,Ae,K2 h.i0 (by rw [BG]at e;exact e)];rw [BG]at e;simp only [Aa];rw [CA (a:=c.i_) (by omega) (by omega)];exact⟨_,_,rfl,⟨by show 0<=c.i_+1;omega,by show c.i_+1<=(c.b_.length:Int);omega,h.len⟩,vA _⟩
 rw [Af e,Ab];exact⟨_,_,rfl,⟨h.i0,h.i1,h.len⟩,vA _⟩
theorem ABe {a n:Int} (h0:0<=a) (hn:0<n):∃v,rm .i64 a n=some v/\0<=v/\v<n:=by
 unfold rm;rw [Ay (by omega),Kx h0];exact⟨_,rfl,Int.emod_nonneg _ (by omega),Int.emod_lt_of_pos _ hn⟩
theorem RT (h:LD c) (n:Int):∃v c',DS c n=some (v,c')/\LD c'/\0<=v/\(0<n->v<n):=by
 unfold DS;by_cases h0:n<=0
 ·rw [Ad h0];exact⟨_,_,rfl,h,by omega,λhh=>by omega⟩
 rw [Af h0,Ab];by_cases h1:n<=256
 ·rw [Ad h1,Ae];obtain⟨v,c',k1,k2,k3,k4⟩:=Y6 h;rw [k1];obtain⟨w,w1,w2,w3⟩:=ABe (n:=n) k3 (by omega);simp only [Aa];rw [w1];exact⟨_,_,rfl,k2,w2,λ_=>w3⟩
 rw [Af h1,Ab];obtain⟨v1,c1,a1,a2,a3,a4⟩:=Y6 h;obtain⟨v2,c2,b1,b2,b3,b4⟩:=Y6 a2;obtain⟨v3,c3,d1,d2,d3,d4⟩:=Y6 b2;obtain⟨v4,c4,e1,e2,e3,e4⟩:=Y6 d2;rw [a1];simp only [Aa];rw [b1];simp only [Aa];rw [d1];simp only [Aa];rw [e1];simp only [Aa];rw [On (by omega) (by omega),On (by omega) (by omega),On (by omega) (by omega),CA (a:=v1*16777216) (b:=v2*65536) (by omega) (by omega),CA (a:=v1*16777216+v2*65536) (b:=v3*256) (by omega) (by omega),CA (a:=v1*16777216+v2*65536+v3*256) (b:=v4) (by omega) (by omega)];obtain⟨w,w1,w2,w3⟩:=ABe (a:=v1*16777216+v2*65536+v3*256+v4) (n:=n) (by omega) (by omega);rw [w1];exact⟨_,_,rfl,e2,w2,λ_=>w3⟩
theorem M1 (h:LD c) (hn:0<n):∃(v:Nat) (c':Ce),DS c (n:Int)=some ((v:Int),c')/\LD c'/\v<n:=by
 obtain⟨v,c',k1,k2,k3,k4⟩:=RT h (n:Int);have:=k4 (by omega);exact⟨v.toNat,c',by rw [Bm k3];exact k1,k2,by omega⟩
theorem qS (h:LD c) (hl:0<l.length):∃v c',Mc c l=some (v,c')/\LD c'/\v∈l:=by
 unfold Mc;obtain⟨v,c',k1,k2,k3⟩:=M1 h hl;rw [BG,k1];simp only [Aa];rw [A9,Ac k3];exact⟨_,_,rfl,k2,AE k3⟩
theorem AAT {l:List ByteArray} (h:LD c) (hl:0<l.length):∃v c',Oe c l=some (v,c')/\LD c'/\v∈l:=by
 unfold Oe;obtain⟨v,c',k1,k2,k3⟩:=M1 h hl;rw [BG,k1];simp only [Aa];rw [A9,Ac k3];exact⟨_,_,rfl,k2,AE k3⟩
theorem vK (h:LD c) (n:Int):∃v c',J6 c n=some (v,c')/\LD c':=by
 unfold J6;obtain⟨v,c',k1,k2,_⟩:=RT h n;rw [k1];exact⟨_,_,rfl,k2⟩
theorem NE (h:LD c):LD (Ce.mk c.b_ c.i_ c.h_):=h
theorem AAe (h:code.length<=1048576):∃c,Qq code=some c/\LD c:=by
 unfold Qq;obtain⟨b,h1,_⟩:=Bg (body:=λs:Int×Int=>J7 code s.1 s.2) (λ(o:Int) i=>(o,i)) code.length (λ_ _=>True) (λ_=>True)
  (λo i hi _=>by
   have hx:=Ac hi;simp only [J7,AC,Ad hi,Ae,Aa,A9,hx];rw [ad1 (i:=i) (by omega)]
   cases decide ((i:Int)<4000)with
   |true=>exact .inl ⟨_,rfl,trivial⟩
   |false=>exact .inr ⟨_,rfl,trivial⟩)
  (λo _=>⟨o,by simp only [J7,AC,Ao,Aq,Ab,Aa],trivial⟩) (s:=ad 36501 (ln code)) trivial
 have h1':Au (λs:Int×Int=>J7 code s.1 s.2) (ad 36501 (ln code),0)=some b:=h1;rw [h1'];exact⟨_,rfl,⟨F7 _,by show(0:Int)<=_;omega,h⟩⟩
def wJ:List ByteArray:=[(bs []),(bs [97]),(bs [98,98]),(bs [97,98,99,100,97,98,99,100,97,98,99,100]),(bs [104,101,108,108,111]),(bs [104,101,108,108,111,32,104,101,108,108,111,32,104,101,108,108,111]),(bs [122,122,122,122,122,122,122,122,122,122,122,122]),(bs [113,49]),(bs [113,50]),(bs [113,51])]
theorem AAN (h:LD c):∃v c',Rq c=some (v,c')/\LD c'/\v∈wJ:=by
 unfold Rq;obtain⟨v,c',k1,k2,k3⟩:=AAT h (l:=wJ) (by simp [wJ]);have e:Oe c wJ=some (v,c'):=k1;unfold wJ at e;rw [e];exact⟨_,_,rfl,k2,k3⟩
structure vS (q:Y7):Prop where
 kind:1<=q.Kind/\q.Kind<=6
 vol:1<=q.Vol/\q.Vol<=3
 rest:(q.Kind=1/\q.Text∈wJ/\(0<=q.Sector/\q.Sector<=15)/\q.Of=0)\/(q.Kind≠1/\L q.Text=[]/\(((q.Kind=2\/q.Kind=6)/\(0<=q.Sector/\q.Sector<=15)/\q.Of=0)\/(q.Sector=0/\((q.Kind=4/\1<=q.Of/\q.Of<=9)\/((q.Kind=3\/q.Kind=5)/\q.Of=0)))))
theorem vL (h:LD c) (d:Bc) (hv:d.Store.Vols.length<=3) (j:∀v∈d.Store.Vols,1<=v.Id/\v.Id<=3):∃q c',Ob c d=some (q,c')/\LD c'/\vS q:=by
  unfold Ob;obtain⟨k,c1,a1,a2,a3⟩:=qS h (l:=[1,1,1,1,1,1,2,3,4,5,6]) (by simp);rw [a1];simp only [Aa];obtain⟨v2,c2,b1,b2,b3,b4⟩:=RT a2 3;have m:1<=k/\k<=6:=by simp at a3;omega
  have s:ad 1 v2=1+v2:=CA (by omega) (by omega);have u:=b4 (by omega);rw [b1];simp only [Aa]
  have J1:∃x y c3,(bif((ln d.Store.Vols)==0)then(some (3,(ad 1 v2),c2.b_,c2.i_,c2.h_))
 else((bif(k !=3)then(bif(k !=4)then((J6 c2 8).bind λv3=>
 some ((!v3.1),v3.2.b_,v3.2.i_,v3.2.h_))
 else(some (false,c2.b_,c2.i_,c2.h_)))
 else(some (false,c2.b_,c2.i_,c2.h_)):Option (Bool×List Int×Int×Int)).bind λj2=>
 bif j2.1 then((DS (Ce.mk j2.2.1 j2.2.2.1 j2.2.2.2) (ln d.Store.Vols)).bind λv4=>
 (gi d.Store.Vols v4.1).bind λx1=>
 some (k,x1.Id,v4.2.b_,v4.2.i_,v4.2.h_))
 else(some (k,(ad 1 v2),j2.2.1,j2.2.2.1,j2.2.2.2))):Option (Int×Int×List Int×Int×Int))=some (x,y,Ce.b_ c3,c3.i_,c3.h_)/\LD c3/\(1<=x/\x<=6)/\1<=y/\y<=3:=by
   cases hz:(ln d.Store.Vols==0)with
   |true=>exact⟨_,_,c2,rfl,b2,by omega,by omega,by omega⟩
   |false=>
    simp only [Ab];have n:0<d.Store.Vols.length:=by
     rw [CR,BG]at hz;omega
    have J2:∃b c3,(bif(k !=3)then(bif(k !=4)then((J6 c2 8).bind λv3=>some ((!v3.1),v3.2.b_,v3.2.i_,v3.2.h_))else(some (false,c2.b_,c2.i_,c2.h_)))else(some (false,c2.b_,c2.i_,c2.h_)):Option (Bool×List Int×Int×Int))=some (b,Ce.b_ c3,c3.i_,c3.h_)/\LD c3:=by
     cases(k !=3)with
     |false=>exact⟨_,c2,rfl,b2⟩
     |true=>
      cases(k !=4)with
      |false=>exact⟨_,c2,rfl,b2⟩
      |true=>
       obtain⟨v3,c3,d1,d2⟩:=vK b2 8;simp only [Ae];rw [d1];exact⟨_,c3,rfl,d2⟩
    obtain⟨b,c3,e1,e2⟩:=J2;rw [e1];simp only [Aa]
    cases b with
    |false=>exact⟨_,_,c3,rfl,e2,m,by omega,by omega⟩
    |true=>
     simp only [Ae];obtain⟨v4,c4,f1,f2,f3⟩:=M1 (NE e2) n;rw [BG,f1];simp only [Aa];rw [A9,Ac f3];exact⟨_,_,c4,rfl,f2,m,j _ (AE f3)⟩
  obtain⟨x,y,c3,j1,j1c,jx,jy⟩:=J1;rw [j1];simp only [Aa];have J3:∃b c4,(bif(x==5)then((J6 (Ce.mk c3.b_ c3.i_ c3.h_) 3).bind λv8=>some ((!v8.1),v8.2.b_,v8.2.i_,v8.2.h_))else(some (false,c3.b_,c3.i_,c3.h_)):Option (Bool×List Int×Int×Int))=some (b,Ce.b_ c4,c4.i_,c4.h_)/\LD c4:=by
   cases(x==5)with
   |false=>exact⟨_,c3,rfl,j1c⟩
   |true=>
    obtain⟨v8,c4,d1,d2⟩:=vK (NE j1c) 3;simp only [Ae];rw [d1];exact⟨_,c4,rfl,d2⟩
  obtain⟨b,c4,j3,j3c⟩:=J3;rw [j3];simp only [Aa,LB];have a:1<=(bif b then(1:Int)else x)/\(bif b then(1:Int)else x)<=6:=by cases b<;>simp<;>omega
  generalize (bif b then(1:Int)else x)=j4 at a
  cases o:(j4==1)with
  |true=>
   simp only [Ae];obtain⟨t,c5,t1,t2,t3⟩:=AAN (NE j3c);rw [t1];simp only [Aa];obtain⟨v10,c6,u1,u2,u3,u4⟩:=RT t2 16;rw [u1];have:=u4 (by omega);have hj:=Dt.1 o;exact⟨_,_,rfl,u2,⟨a,jy,.inl ⟨hj,t3,by show 0<=v10/\v10<=15;omega,rfl⟩⟩⟩
  |false=>
   simp only [Ab];have e:j4≠1:=by simpa using o
   have p:(bif(j4==2)then(j4==2)else(j4==6))=decide (j4=2\/j4=6):=by
    by_cases e2:j4=2
    ·rw [e2];rfl
    rw [show(j4==2)=false by simpa using e2,Ab];by_cases e6:j4=6
    ·rw [e6];rfl
    rw [show(j4==6)=false by simpa using e6,Af (by omega)]
   rw [p];by_cases g:j4=2\/j4=6
   ·rw [Ad g];simp only [Ae];obtain⟨v11,c6,u1,u2,u3,u4⟩:=RT (NE j3c) 16;rw [u1];have:=u4 (by omega);exact⟨_,_,rfl,u2,⟨a,jy,.inr ⟨e,DV _,.inl ⟨g,by show 0<=v11/\v11<=15;omega,rfl⟩⟩⟩⟩
   rw [Af g];simp only [Ab]
   cases f:(j4==4)with
   |true=>
    simp only [Ae];obtain⟨v12,c6,u1,u2,u3,u4⟩:=RT (NE j3c) 3;have h44:=Dt.1 f;have:=u4 (by omega);rw [u1];simp only [Aa]
    cases r:d.Store.Vols with
    |nil=>
     rw [show decide (ln ([]:List Vol)>0)=false from rfl];exact⟨_,_,rfl,u2,⟨a,jy,.inr ⟨e,DV _,.inr ⟨rfl,.inl ⟨h44,by show 1<=ad 1 v12/\ad 1 v12<=9;rw [CA (by omega) (by omega)];omega⟩⟩⟩⟩⟩
    |cons v vs=>
     rw [Ad (by rw [BG,A0];omega:ln (v::vs)>0),show gi (v::vs) 0=some v from A9 (i:=0)];have:=j v (by rw [r];simp);exact⟨_,_,rfl,u2,⟨a,jy,.inr ⟨e,DV _,.inr ⟨rfl,.inl ⟨h44,by show 1<=v.Id/\v.Id<=9;omega⟩⟩⟩⟩⟩
   |false=>
    have h44:j4≠4:=by simpa using f
    exact⟨_,_,rfl,NE j3c,⟨a,jy,.inr ⟨e,DV _,.inr ⟨rfl,.inr ⟨by show j4=3\/j4=5;omega,rfl⟩⟩⟩⟩⟩
theorem u0 (h:3<=n/\n<=10):BN (Flash.mk (List.replicate n (Block.mk false 0 Nf))):=by
 refine⟨by simpa using h,λb hb=>?_⟩;rw [Cr hb];exact iK ⟨by omega,by omega⟩
theorem b9 (h:3<=n/\n<=10):OS (n:Int)=some (Flash.mk (List.replicate n (Block.mk false 0 Nf)),true):=by
 unfold OS;rw [E4,Ad (by omega)];simp only [Aa,Ai,Ab];have q:=kR (body:=λs:Int×List Block=>IZ (n:Int) s.1 s.2) n (λ_=>Block.mk false 0 Nf)
  (λi a hi ho=>by
   simp only [IZ];rw [Ad (by omega:(i:Int)<(n:Int)),Ae,R3];simp only [Aa];rw [Cn (by simp;omega)];simp only [Aa]
   rw [ad1 (by omega)])
  (λa=>by simp only [IZ];rw [Af (by omega),Ab])
 rw [q];simp only [Aa];rw [Ju,Ca]
theorem ZN:∀(n:Nat) (i:Int),Kg i (List.replicate n (Block.mk false 0 Nf))=[]
 |0,i=>rfl
 |n+1,i=>by
  rw [Gt,Kg,ZN n (i+1),TF i 0 _ (λy hy=>by rw [Cr hy];simp)];rfl
theorem i8 (h:3<=n/\n<=10):∃d,Nz (n:Int)=some (d,true)/\Ni d []/\BJ d.Store=[]/\d.Store.Next=1/\d.Flash=Flash.mk (List.replicate n (Block.mk false 0 Nf)):=by
 have hP:=u0 h;have b:SR (Kg 0 (Flash.mk (List.replicate n (Block.mk false 0 Nf))).Blocks) []:=by
  rw [ZN];exact⟨List.Pairwise.nil,λ_=>rfl⟩
 obtain⟨d,u1,u2,u3⟩:=Nb hP b;have a:=u2.ab;have:KJ (Dc (Bz []))=([],1):=rfl;rw [this]at a
 injection a with e1 e2
 refine⟨d,?_,⟨u2,⟨⟨by simp,by simp,by simp,by simp,by simp,by simp⟩,List.Pairwise.nil,⟨λy hy=>by cases hy⟩⟩,?_⟩,e1,e2,u3⟩
 ·unfold Nz;rw [b9 h];simp only [Aa,Ai,Ab];rw [u1];rfl
 rw [e1];refine⟨λc hc=>?_,λc c' hc=>?_⟩
 ·obtain⟨_,p,hp,_⟩:=hc;cases hp
 obtain⟨_,p,hp,_⟩:=hc;cases hp
structure vR (d:Bc) (r:List A8):Prop where
 ids:∀p∈BJ d.Store,1<=p.1/\p.1<=3
 pg:∀y∈r,y.Page.Kind=1->y.Page.Tx<=13/\∃s∈wJ,Ux y.Page.Text=some s
structure Ext (d:Bc) (r:List A8):Prop extends vR d r where
 tx:D9 r<=1000
 sq:Dg r<=100000
 wear:IP d.Flash 1000
theorem vS.text {q:Y7} (h:vS q):q.Text∈wJ:=by
 rcases h.rest with⟨_,h2,_⟩|⟨_,h2,_⟩
 ·exact h2
 rw [show q.Text=bs []from Iw (by rw [h2,DV])];simp [wJ]
theorem vR.step {q:Y7} (h:vR d r) (hq:vS q) (hn:d.Store.Next<=13) (hf:vQ r r' d.Store.Next q.Text) (hi:AA2 d d' q.Vol):vR d' r':=by
 refine⟨λp hp=>?_,λy hy hk=>?_⟩
 ·rcases hi p hp with⟨p',h1,h2⟩|h1
  ·rw [<-h2];exact h.ids p' h1
  rw [h1];exact hq.vol
 rcases hf.1 y hy hk with⟨z,z1,z2,z3,z4⟩|⟨h1,h2⟩
 ·have:=h.pg z z1 z2;rw [z3,z4]at this;exact this
 exact⟨by omega,_,hq.text,h2⟩
theorem VA (h:LD c):∃d c' r,Lq c=some (d,c')/\LD c'/\Ni d r/\d.Store.Next<=13/\Ext d r:=by
 unfold Lq;obtain⟨v,c1,a1,a2,a3⟩:=M1 h (n:=4) (by omega);rw [show((4:Nat):Int)=4 from rfl]at a1;rw [a1];simp only [Aa];rw [CA (by omega) (by omega),show(5:Int)+(v:Int)=((5+v:Nat):Int) by omega];obtain⟨d0,b1,b2,b3,b4,b5⟩:=i8 (n:=5+v) (by omega);rw [b1];simp only [Aa];obtain⟨a,h1,d,cc,r,h2,h3,h4,h5,h6⟩:=Bg (body:=λs:Int×List Block×List Vol×List BL×Int×Int×Int×Int×List Int×Int×Int=>G6 s.1 s.2.1 s.2.2.1 s.2.2.2.1 s.2.2.2.2.1 s.2.2.2.2.2.1 s.2.2.2.2.2.2.1 s.2.2.2.2.2.2.2.1 s.2.2.2.2.2.2.2.2.1 s.2.2.2.2.2.2.2.2.2.1 s.2.2.2.2.2.2.2.2.2.2)
  (λ(o:Bc×Ce) i=>(i,o.1.Flash.Blocks,o.1.Store.Vols,o.1.Store.Arena.Knots,o.1.Store.Next,o.1.Seq,o.1.Tx,o.1.Base,o.2.b_,o.2.i_,o.2.h_)) 12
  (λi o=>LD o.2/\(∃r,Ni o.1 r/\vR o.1 r/\D9 r<=1+21*i/\Dg r<=1+4010*i/\IP o.1.Flash (20*i))/\o.1.Store.Next<=1+i)
  (λa=>∃d cc r,a=(d.Flash.Blocks,d.Store.Vols,d.Store.Arena.Knots,d.Store.Next,d.Seq,d.Tx,d.Base,Ce.b_ cc,cc.i_,cc.h_)/\LD cc/\Ni d r/\d.Store.Next<=13/\Ext d r)
  (λo i hi hs=>by
   obtain⟨e,cu⟩:=o;obtain⟨k1,⟨r,k2,kx,kt,kq,kw⟩,k3⟩:=hs;simp only at k1 k2 k3 kx kw;have f:Bc.mk (Flash.mk e.Flash.Blocks) (Store.mk e.Store.Vols (Arena.mk e.Store.Arena.Knots) e.Store.Next) e.Seq e.Tx e.Base=e:=rfl;simp only [G6];rw [f];obtain⟨w,c3,w1,w2,w3⟩:=M1 (NE k1) (n:=12) (by omega);rw [show((12:Nat):Int)=12 from rfl]at w1;rw [w1];simp only [Aa];by_cases b:(i:Int)<(w:Int)
   ·rw [Ad b,Ae];obtain⟨q,c4,q1,q2,q3⟩:=vL w2 e k2.dev.st.len (λv hv=>kx.ids (v.Id,EQ e.Store.Arena.Knots v.Root) (AJ.2 ⟨v,hv,rfl⟩));rw [q1];simp only [Aa];obtain⟨d',steps,t,no,r',s1,s2,s3,s4,s5,s6,s7⟩:=zA k2 (λx hx=>by have:=kw x hx;omega) q;rw [s1];simp only [Aa];rw [ad1 (by omega)];exact .inl ⟨(d',c4),rfl,q2,⟨r',s2,kx.step q3 (by omega) s5 s6,by have:=s5.2.1;omega,by have:=s5.2.2;omega,λx hx=>by have:=s7 _ kw x hx;omega⟩,by show d'.Store.Next<=_;omega⟩
   rw [Af b,Ab]
   exact .inr ⟨_,rfl,e,c3,r,rfl,w2,k2,by omega,⟨kx,by omega,by omega,λx hx=>by have:=kw x hx;omega⟩⟩)
  (λo hs=>by
   obtain⟨e,cu⟩:=o;obtain⟨k1,⟨r,k2,kx,kt,kq,kw⟩,k3⟩:=hs;simp only at k1 k2 k3 kx kw;simp only [G6];obtain⟨w,c3,w1,w2,w3⟩:=M1 (NE k1) (n:=12) (by omega);rw [show((12:Nat):Int)=12 from rfl]at w1;rw [show((12:Nat):Int)=12 from rfl,w1];simp only [Aa];rw [Af (by omega:¬(12:Int)<(w:Int)),Ab]
   exact⟨_,rfl,e,c3,r,rfl,w2,k2,by omega,⟨kx,by omega,by omega,λx hx=>by have:=kw x hx;omega⟩⟩) (s:=(d0,c1)) ⟨a2,⟨[],b2,⟨λp hp=>(by rw [b3]at hp;cases hp),λy hy=>(by cases hy)⟩,by simp [D9],by simp [Dg],λx hx=>by
    rw [b5]at hx;rw [Cr hx]
    exact F7 _⟩,by show d0.Store.Next<=_;omega⟩
 have h1':Au (λs:Int×List Block×List Vol×List BL×Int×Int×Int×Int×List Int×Int×Int=>G6 s.1 s.2.1 s.2.2.1 s.2.2.2.1 s.2.2.2.2.1 s.2.2.2.2.2.1 s.2.2.2.2.2.2.1 s.2.2.2.2.2.2.2.1 s.2.2.2.2.2.2.2.2.1 s.2.2.2.2.2.2.2.2.2.1 s.2.2.2.2.2.2.2.2.2.2) (0,d0.Flash.Blocks,d0.Store.Vols,d0.Store.Arena.Knots,d0.Store.Next,d0.Seq,d0.Tx,d0.Base,c1.b_,c1.i_,c1.h_)=some a:=h1;rw [h1',h2];exact⟨d,cc,r,rfl,h3,h4,h5,h6⟩
theorem eG (h:code.length<=1048576):∃d r,Mf code=some d/\Ni d r/\d.Store.Next<=13/\Ext d r:=by
 unfold Mf;obtain⟨c,c1,c2⟩:=AAe h;obtain⟨d,c',r,d1,d2,d3,d4⟩:=VA c2;rw [c1];simp only [Aa];rw [d1];exact⟨d,r,rfl,d3,d4⟩
theorem vB (s:Store) (hv:s.Vols.length<=1048576) (id:Int):∃w,Eb s id=some w/\(w<0↔Kn (BJ s) id=none):=by
 rcases Fp s hv id with⟨e,h⟩|⟨k,v,e,h1,h2,_⟩
 ·exact⟨_,e,⟨λ_=>KM.1 h,λ_=>by omega⟩⟩
 refine⟨_,e,⟨λhh=>by omega,λhh=>absurd h2 (KM.2 hh v (A3 h1))⟩⟩
theorem vJ (h:LR d r) (hn:d.Store.Next<1000000000) (q:Y7):∃b text no,IY d q=some (b,text,no)/\(b=[]\/∃x p,b=[x]/\D7 (BJ d.Store) d.Store.Next x=some p)/\(L text≠ []->q.Kind=1):=by
 have s:=h.st.len;have g:=h.st.nx;obtain⟨v,a1,a2⟩:=UD q
 have a:∀{P:Prop},L (bs [])≠ []->P:=λhh=>absurd (DV _) hh
 unfold IY;rw [a1];simp only [Aa]
 cases v with
 |false=>exact⟨_,_,_,rfl,.inl rfl,a⟩
 |true=>
  have hq:=a2 rfl;simp only [Ai,Ab];have k:=hq.kind;obtain⟨w,hw,i⟩:=vB d.Store (by omega) q.Vol;rw [hw];simp only [Aa];by_cases h34:q.Kind=3\/q.Kind=4
  ·have:(bif(q.Kind==3)then(some true)else(some (q.Kind==4)):Option Bool)=some true:=by
    rcases h34 with e|e<;>rw [e]<;>rfl
   rw [this];simp only [Aa,Ae];by_cases f:w<0
   ·rw [Af (by omega:¬w>=0)];simp only [Ab];obtain⟨u,hu,l⟩:=vB d.Store (by omega) q.Of;obtain⟨j2,m,n⟩:∃j2,(bif(q.Kind==4)then((Eb d.Store q.Of).bind λv3=>some (decide (v3<0)))else(some false):Option Bool)=some j2/\(j2=false->q.Kind=4->Kn (BJ d.Store) q.Of≠none):=by
     cases hk:q.Kind==4 with
     |false=>exact⟨_,rfl,λ_ e=>by rw [e]at hk;cases hk⟩
     |true=>
      rw [hu];refine⟨_,rfl,λhh _ hc=>?_⟩;rw [l.2 hc|>Ad]at hh;cases hh
    rw [m];simp only [Aa]
    cases j2 with
    |true=>exact⟨_,_,_,rfl,.inl rfl,a⟩
    |false=>
     simp only [Ab];rw [BG];by_cases j:(d.Store.Vols.length:Int)>=3
     ·rw [Ad j];exact⟨_,_,_,rfl,.inl rfl,a⟩
     rw [Af j];refine⟨_,_,_,rfl,.inr ⟨_,(kV (BJ d.Store) q.Vol (if 0<q.Of then(Kn (BJ d.Store) q.Of).getD Qc else Qc),d.Store.Next),rfl,?_⟩,a⟩;unfold D7;rw [Ay (by rw [AAq hq.vol hq.of_];simp),Ay (by simp),Ax rfl,Ay];simp only [not_or];refine⟨?_,by rw [i.1 f];simp,by rw [Ng];omega⟩;rintro⟨e1,e2⟩
     rcases h34 with e|e
     ·have:=hq.no (by omega);omega
     exact n rfl e e2
   rw [Ad (by omega:w>=0)];exact⟨_,_,_,rfl,.inl rfl,a⟩
  have:(bif(q.Kind==3)then(some true)else(some (q.Kind==4)):Option Bool)=some false:=by
   rw [show(q.Kind==3)=false by rw [CR];omega,show(q.Kind==4)=false by rw [CR];omega];rfl
  rw [this];simp only [Aa,Ab];by_cases f:w<0
  ·rw [Af (by omega:¬w>=0)];exact⟨_,_,_,rfl,.inl rfl,a⟩
  rw [Ad (by omega:w>=0)]
  have hg:Kn (BJ d.Store) q.Vol≠none:=λe=>f (i.2 e)
  have taken:∀x:De,Gx x=true->x.Kind≠1->x.Kind≠2->x.Vol=q.Vol->x.Chunk<1000000000->∃p,D7 (BJ d.Store) d.Store.Next x=some p:=by
   intro x x1 x2 x3 x4 x5;unfold D7;have x6:¬(Kn (BJ d.Store) x.Vol=none\/x.Chunk=1000000000):=by
    rw [x4];rintro(e|e)
    ·exact hg e
    omega
   rw [Ay (by rw [x1];simp),Ay x2,Ay x3,Ay x6];split<;>exact⟨_,rfl⟩
  simp only [Ai,Ab]
  cases k1:(q.Kind==1)with
  |true=>
   simp only [Ae];have k1':q.Kind=1:=by simpa using k1
   obtain⟨t,l1,l2,l3,l4⟩:=MH h.st;obtain⟨c,f1,f2⟩:=Y4 h l4 q.Text;rw [l1];simp only [Aa];rw [f1];simp only [Aa]
   rcases f2 with⟨rfl,f2⟩|⟨f2,f3⟩
   ·obtain⟨z,z1,z2,z3⟩:=iP q.Text hq.text;rw [show((0:Int)==0)=true from rfl,z1];obtain⟨p,hp⟩:=taken (De.mk 4 q.Vol q.Sector d.Store.Next) (sJ hq.vol (by have:=hq.sec;omega) ⟨g.1,g.2⟩) (by simp) (by simp) rfl hn;exact⟨_,_,_,rfl,.inr ⟨_,_,rfl,hp⟩,λ_=>k1'⟩
   have o:=(l3 c).1 f2;have y:=Wx h.st o;rw [show(c==0)=false by rw [CR];omega];obtain⟨p,hp⟩:=taken (De.mk 4 q.Vol q.Sector c) (sJ hq.vol (by have:=hq.sec;omega) (by omega)) (by simp) (by simp) rfl (by show c<_;omega);exact⟨_,_,_,rfl,.inr ⟨_,_,rfl,hp⟩,λ_=>k1'⟩
  |false=>
   simp only [Ab]
   cases k2:(q.Kind==2)with
   |true=>
    obtain⟨p,hp⟩:=taken (De.mk 5 q.Vol q.Sector 0) (by
     have:=hq.vol;have:=hq.sec;unfold Gx;simp
     omega) (by simp) (by simp) rfl (by show(0:Int)<_;omega)
    exact⟨_,_,_,rfl,.inr ⟨_,_,rfl,hp⟩,a⟩
   |false=>
    simp only [Ab]
    cases k5:(q.Kind==5)with
    |true=>
     obtain⟨p,hp⟩:=taken (De.mk 3 q.Vol 0 0) (by
      have:=hq.vol;unfold Gx;simp
      omega) (by simp) (by simp) rfl (by show(0:Int)<_;omega)
     exact⟨_,_,_,rfl,.inr ⟨_,_,rfl,hp⟩,a⟩
    |false=>exact⟨_,_,_,rfl,.inl rfl,a⟩
theorem qT (h:code.length<=1048576):∃q,Rv code=some q/\vS q:=by
 unfold Rv;obtain⟨c,c1,c2⟩:=AAe h;obtain⟨d,c',r,d1,d2,d3,_,d4⟩:=VA c2;obtain⟨q,c'',q1,q2,q3⟩:=vL d2 d d3.dev.st.len (λv hv=>d4.ids (v.Id,EQ d.Store.Arena.Knots v.Root) (AJ.2 ⟨v,hv,rfl⟩));rw [c1];simp only [Aa];rw [d1];simp only [Aa];rw [q1];exact⟨q,rfl,q3⟩
theorem Qn (l:List Bu) (h:l.length<=1048576):Lm l l=some true:=by
 unfold Lm;rw [bne_self_eq_false,Ab];obtain⟨a,h1,h2⟩:=Bg (body:=λs:Int=>G4 l l s) (λ(_:Unit) i=>i) l.length (λ_ _=>True) (λa=>a= .inl ())
  (λ_ i hi _=>by
   have hx:=Ac hi;refine .inl ⟨(),?_,trivial⟩;simp only [G4,AC,Ad hi,Ae,A9,hx,Aa,Vl,CC,JT,decide_true,Ai,Ab]
   rw [ad1 (by omega)])
  (λ_ _=>⟨.inl (),by simp only [G4,AC,Ao,Aq,Ab],rfl⟩) (s:=()) trivial
 have h1':Au (λs:Int=>G4 l l s) 0=some a:=h1;rw [h1',h2];rfl
theorem Zc (hr:Gs r):∃l,Au (λs:List Int×Int=>JL r s.1 s.2) ([],0)=some l/\l.Nodup/\(∀x,x∈l↔∃y∈r,y.Page.Kind=2/\y.Page.Tx=x)/\l.length<=r.length:=by
 have c:=hr.len;obtain⟨l,h1,h2,h3,h4⟩:=Bg (body:=λs:List Int×Int=>JL r s.1 s.2) (λ(o:List Int) i=>(o,i)) r.length (λi o=>o.Nodup/\(∀x,x∈o↔∃y∈r.take i,y.Page.Kind=2/\y.Page.Tx=x)/\o.length<=i) (λo=>o.Nodup/\(∀x,x∈o↔∃y∈r,y.Page.Kind=2/\y.Page.Tx=x)/\o.length<=r.length)
  (λo i hi ho=>by
   obtain⟨o1,o2,o3⟩:=ho;have hx:=Ac hi;have et:r.take (i+1)=r.take i++ [r[i]]:=by rw [Av hi]
   refine .inl ?_;simp only [JL,AC,Ad hi,Ae,A9,hx,Aa];rw [ad1 (by omega),W2 o _ (by omega)]
   cases hk:(r[i].Page.Kind==2)with
   |false=>
    simp only [Ab,Aa];refine⟨o,rfl,o1,λx=>?_,by omega⟩;rw [o2,et];constructor
    ·rintro⟨y,y1,y2⟩;exact⟨y,AA _ y1,y2⟩
    rintro⟨y,y1,y2,y3⟩;rw [Aj,Aw]at y1
    rcases y1 with y1|rfl
    ·exact⟨y,y1,y2,y3⟩
    rw [y2]at hk;simp at hk
   |true=>
    have hk':r[i].Page.Kind=2:=by simpa using hk
    simp only [Ae,Aa]
    cases hc:o.contains r[i].Page.Tx with
    |true=>
     have hc':r[i].Page.Tx∈o:=by simpa using hc
     simp only [Ai,Ab];refine⟨o,rfl,o1,λx=>?_,by omega⟩;rw [o2,et];constructor
     ·rintro⟨y,y1,y2⟩;exact⟨y,AA _ y1,y2⟩
     rintro⟨y,y1,y2,y3⟩;rw [Aj,Aw]at y1
     rcases y1 with y1|rfl
     ·exact⟨y,y1,y2,y3⟩
     rw [<-y3];exact(o2 _).1 hc'
    |false=>
     have hc':r[i].Page.Tx∉o:=by
      intro h;rw [List.contains_iff_mem.2 h]at hc;cases hc
     simp only [AG,Ae];rw [Cn (by simp only [Ak];omega)];refine⟨_,rfl,?_,λx=>?_,by simp;omega⟩
     ·rw [Br];exact⟨o1,by simp,λa ha b hb e=>by rw [Aw]at hb;rw [e,hb]at ha;exact hc' ha⟩
     rw [Aj,Aw,o2,et];constructor
     ·rintro(⟨y,y1,y2⟩|rfl)
      ·exact⟨y,AA _ y1,y2⟩
      exact⟨r[i],AK _ (Aw.2 rfl),hk',rfl⟩
     rintro⟨y,y1,y2,y3⟩;rw [Aj,Aw]at y1
     rcases y1 with y1|rfl
     ·exact .inl ⟨y,y1,y2,y3⟩
     exact .inr y3.symm)
  (λo ho=>⟨o,by simp only [JL,AC,Ao,Aq,Ab],by rw [AN]at ho;exact ho⟩) (s:=[]) ⟨C6,by simp,by simp⟩
 exact⟨l,h1,h2,h3,h4⟩
theorem oX (hr:Gs r) (h1:l.Nodup) (h2:∀x,x∈l↔∃y∈r,y.Page.Kind=2/\y.Page.Tx=x):YC l=Do r:=by
 obtain⟨n1,n2,n3⟩:=GH r (λy hy=>(hr.tx y hy).1);refine W7 ?_ n1 (λx=>?_)
 ·have hs:(YC l).Pairwise λx y=>x<=y:=by
   have:=List.pairwise_mergeSort (le:=λx y:Int=>decide (x<=y)) (λa b c h1 h2=>by simp at*;omega) (λa b=>by simp;omega) l;unfold YC;exact this.imp (λh=>by simpa using h)
  have hd:(YC l).Nodup:=by
   unfold YC;exact(List.mergeSort_perm l _).nodup_iff.2 h1
  unfold asc;exact(hs.and hd).imp (λh=>by have:=h.1;have:=h.2;omega)
 rw [n2,<-h2];unfold YC;rw [List.mem_mergeSort]
theorem ZI (t:ByteArray) (ht:(L t).length<=20000):∀(n a:Nat) (c:List De),(L t).length-a<=n->a<=(L t).length->c.length<=a->Au (λs:List De×Int=>Lh t s.1 s.2) (c,(a:Int))=Au (λs:List De×ByteArray×Int×Bool=>DM t s.1 s.2.1 s.2.2.1 s.2.2.2) (c,t,(a:Int),false)
 |n,a,c,hn,ha,ho=>by
  rw [A7,A7];simp only [DM,Lh];rw [BH];by_cases d:a<(L t).length
  ·rw [Ad (by omega:(a:Int)<((L t).length:Int))];simp only [Ae,Aa,AG];rw [EU t d,ad1 (by omega)];obtain⟨r1,a1,a2,a3⟩:=Iv t ((a+1:Nat):Int) (by omega) ⟨by omega,by omega⟩;have f:oI r1.2.1:=by
    rcases a3 with⟨_,_,e⟩|⟨_,_,b,_,_,e,_,_,e2,_⟩
    ·rw [e];exact⟨by omega,by omega⟩
    rw [e];exact⟨by omega,by omega⟩
   obtain⟨r2,b1,b2,b3⟩:=Iv t r1.2.1 (by omega) f;rw [a2];simp only [Aa];rw [b2];simp only [Aa];have l1:Du (E0.mk t ((a+1:Nat):Int) false)=some (if r1.2.2=true then(r1.1,E0.mk t r1.2.1 false)else(0,E0.mk t ((a+1:Nat):Int) true)):=by
    unfold Du;simp only;rw [a1];cases h:r1.2.2<;>simp [h]
   rw [l1]
   cases h1:r1.2.2 with
   |false=>
    simp only [BQ,Gp,Aa,AG,Ae];have l2:Du (E0.mk t ((a+1:Nat):Int) true)=some (0,E0.mk t ((a+1:Nat):Int) true):=by
     unfold Du;simp only;rw [a1];simp
    rw [l2];simp only [Aa,Ae]
   |true=>
    simp only [BW,Aa,Ai,Ab];have l2:Du (E0.mk t r1.2.1 false)=some (if r2.2.2=true then(r2.1,E0.mk t r2.2.1 false)else(0,E0.mk t r1.2.1 true)):=by
     unfold Du;simp only;rw [b1];cases h:r2.2.2<;>simp [h]
    rw [l2]
    cases h2:r2.2.2 with
    |false=>
     simp only [BQ,Gp,Aa,AG,Ae]
    |true=>
     simp only [BW,Aa,Ai,Ab];obtain⟨v,c1,c2,_⟩:=Yw (De.mk (qu (IntKind.i64.wrap ((L t)[a].toNat:Int)) 16) (Int.tmod (IntKind.i64.wrap ((L t)[a].toNat:Int)) 16) r1.1 r2.1);rw [c1,c2];simp only [Aa]
     cases v with
     |false=>simp only [AG,Ae]
     |true=>
      simp only [Ai,Ab];rw [Cn (by simp;omega)];simp only [Aa]
      rcases b3 with⟨e,_⟩|⟨_,aa,b,m,k1,k2,k3,k4,k5,_⟩
      ·rw [h2]at e;cases e
      rcases a3 with⟨e,_⟩|⟨_,aa',b',m',p1,p2,p3,p4,p5,_⟩
      ·rw [h1]at e;cases e
      rw [k2]
      match n,hn with
      |n+1,hn=>exact ZI t ht n b _ (by omega) k5 (by simp;omega)
      |0,hn=>omega
  rw [Af (by omega)];simp only [Ab,Aa]
theorem Za (t:ByteArray) (ht:(L t).length<=20000):Pv t=Ic t:=by
 have h:=ZI t ht (L t).length 0 [] (by omega) (by omega) (by simp);rw [show((0:Nat):Int)=0 from rfl]at h;unfold Pv Ic;rw [h]
def ABa:Page:=Page.mk 0 0 0 0 0 (bs [])
theorem ZV (r:List A8) (hl:r.length<=1048576) (t a c:Int) (h:(a=0/\c=0)\/(0<a/\0<c)):QM r t a c=some (match PY r t a c with|some y=>(y.Page,true)|none=>(ABa,false)):=by
 have hp:∀y:A8,(bif(y.Page.Kind==2)then(bif(y.Page.Tx==t)then(bif(y.Page.Part==a)then(bif(c==0)then(some true)else(some (y.Page.Count==c)))else(some false))else(some false))else(some false):Option Bool)=some (jE t a c y):=by
  intro y;unfold jE;cases y.Page.Kind==2<;>cases y.Page.Tx==t<;>cases y.Page.Part==a<;>simp only [Ae,Ab,Bool.false_and,CC]
  rcases h with⟨rfl,rfl⟩|⟨h1,h2⟩
  ·simp
  rw [show(c==0)=false by simp;omega];simp [h1]
 unfold QM;obtain⟨b,h1,h2⟩:=Bg (body:=λs:Int=>JG r t a c s) (λ(_:Unit) i=>i) r.length (λi _=>∀(j:Nat) x,j<i->r[j]?=some x->jE t a c x=false) (λb=>match PY r t a c with|some y=>b= .inr (y.Page,true)|none=>b= .inl ())
  (λ_ i hi hs=>by
   have hx:=Ac hi;simp only [JG,AC,Ad hi,Ae,A9,hx,Aa];rw [hp,ad1 (by omega)];simp only [Aa]
   cases e:jE t a c r[i]with
   |true=>
    refine .inr ⟨_,rfl,?_⟩;unfold PY;rw [dT r _ hs hx e]
   |false=>
    refine .inl ⟨(),by simp only [Ab],λj x hj d=>?_⟩;by_cases q:j=i
    ·subst q;rw [hx]at d;injection d with d;rw [<-d];exact e
    exact hs j x (by omega) d)
  (λ_ hs=>⟨.inl (),by simp only [JG,AC,Ao,Aq,Ab],by
   unfold PY
   rw [oH r _ (λj x hx=>hs j x (Ah.1 hx).1 hx)]⟩) (s:=()) (λj x hj=>by omega)
 have h1':Au (λs:Int=>JG r t a c s) 0=some b:=h1;rw [h1']
 cases hf:PY r t a c with
 |none=>rw [hf]at h2;simp only at h2;rw [h2];rfl
 |some y=>rw [hf]at h2;simp only at h2;rw [h2];rfl
theorem uH (r:List A8) (hr:Gs r) (t:Int) (v:Page×Bool) (hv:1<=v.1.Count/\v.1.Count<=9):∀(n:Nat) (a:Int) (text:ByteArray) (seq:Int),a+n=11->1<=a->a<=v.1.Count->(L text).length<=90*a.toNat->
  ∃b,Au (λs:ByteArray×Int×Int=>Lc r t v s.1 s.2.1 s.2.2) (text,seq,a)=some b/\(match parts r t n a v.1.Count (L text) seq with
   |none=>b= .inr (Tx.mk 0 0 [],false)
   |some (x,q)=>∃u,b= .inl (u,q)/\L u=x/\(L u).length<=1000)
 |0,a,text,seq,hn,h1,hc,ht=>by omega
 |n+1,a,text,seq,hn,h1,hc,ht=>by
  rw [A7];simp only [Lc,parts];by_cases e:a<v.1.Count
  ·rw [Ad e,Ax (.inr e)];simp only [Ae];rw [ZV r hr.len t a v.1.Count (.inr ⟨by omega,by omega⟩)];simp only [Aa]
   cases hf:PY r t a v.1.Count with
   |none=>
      simp only [AG,Ae];exact⟨_,rfl,rfl⟩
   |some y=>
    simp only [Ai,Ab];have hy:=QX hf;have d:=hr.text y hy.1;have c:=nZ hy.2 (by omega);rw [FE text y.Page.Text (by omega)];simp only [Aa];rw [CA (by omega) (by omega),c];have es:MP a seq y=(if y.Page.Seq<seq then y.Page.Seq else seq):=by
     unfold MP;by_cases q:y.Page.Seq<seq
     ·rw [Ax (.inr q),Ax q]
     rw [Ay (by rintro(h|h);omega;exact q h),Ay q]
    rw [es,<-DC];exact uH r hr t v hv n (a+1) _ _ (by omega) (by omega) (by omega) (by rw [DC,Ag];omega)
  rw [Af e,Ay (by rintro(h|h);omega;exact e h)];simp only [Ab];exact⟨_,rfl,text,rfl,rfl,by omega⟩
theorem cZ (r:List A8) (hr:Gs r) (t:Int):∃x ok,Po r t=some (x,ok)/\HB r t=(if ok=true then some x else none)/\x.Recs.length<=20000:=by
 unfold Po HB;rw [ZV r hr.len t 0 0 (.inl ⟨rfl,rfl⟩)];simp only [Aa]
 have a:parts r t 11 0 0 [] 0=(match PY r t 0 0 with
  |none=>none
  |some y=>parts r t 10 1 y.Page.Count (L y.Page.Text) y.Page.Seq):=by
  rw [show(11:Nat)=10+1 from rfl];unfold parts;rw [Ax (.inl rfl)]
  cases PY r t 0 0 with
  |none=>rfl
  |some y=>
   simp only [A6];have:MP 0 0 y=y.Page.Seq:=by unfold MP;rw [Ax (.inl rfl)]
   rw [this];rfl
 rw [a]
 cases hf:PY r t 0 0 with
 |none=>exact⟨_,_,rfl,rfl,by simp⟩
 |some y=>
  simp only [Ai,Ab];have hy:=QX hf;have c:=hr.text y hy.1;have hc:=hr.cnt y hy.1;obtain⟨b,h1,h2⟩:=uH r hr t (y.Page,true) hc 10 1 y.Page.Text y.Page.Seq (by omega) (by omega) hc.1 (by omega);rw [h1];simp only [Aa]
  cases hp:parts r t 10 1 y.Page.Count (L y.Page.Text) y.Page.Seq with
  |none=>
   rw [hp]at h2;simp only at h2;rw [h2];exact⟨_,_,rfl,rfl,by simp⟩
  |some w=>
   obtain⟨x,q⟩:=w;rw [hp]at h2;obtain⟨u,rfl,rfl,h4⟩:=h2;simp only [By];obtain⟨l,ok,r1,r2,r3⟩:=Yx u (by omega);rw [Za u (by omega),r1,ABz,r2];simp only [Aa]
   cases ok with
   |true=>exact⟨_,_,rfl,rfl,r3⟩
   |false=>exact⟨_,_,rfl,rfl,r3⟩
theorem gW (r:List A8) (hr:Gs r):TX r=some (Bz r):=by
 have c:=hr.len;have a:=GH r (λy hy=>(hr.tx y hy).1);have d:=a.2.2;obtain⟨l,l1,l2,l3,l4⟩:=Zc hr;unfold TX;rw [l1];simp only [Aa];unfold WY;rw [Ax (by omega),oX hr l2 l3];simp only [Aa];obtain⟨b,h1,h2⟩:=Bg (body:=λs:List Tx×Int=>JK r (Do r) s.1 s.2) (λ(o:List Tx) i=>(o,i)) (Do r).length (λi o=>o=((Do r).take i).filterMap (HB r)) (λb=>b=Bz r)
  (λo i hi ho=>by
   have hx:=Ac hi;have et:(Do r).take (i+1)=(Do r).take i++ [(Do r)[i]]:=Av hi;have e:o.length<=i:=by
    rw [ho];have:=List.length_filterMap_le (HB r) ((Do r).take i);rw [AH]at this;omega
   simp only [JK,AC,Ad hi,Ae,A9,hx,Aa];rw [ad1 (by omega)];obtain⟨z,ok,k1,k2,k3⟩:=cZ r hr (Do r)[i];rw [k1];simp only [Aa];refine .inl ?_
   cases ok with
   |true=>
    simp only [Ae];rw [Cn (by simp only [Ak];omega)];refine⟨_,rfl,?_⟩;rw [et,JO,ho];simp only [Qb,List.filterMap_nil,k2,BW]
   |false=>
    refine⟨o,rfl,?_⟩;rw [et,JO,ho]
    simp [k2])
  (λo ho=>⟨o,by simp only [JK,AC,Ao,Aq,Ab],by rw [ho,AN];rfl⟩) (s:=[]) rfl
 have h1':Au (λs:List Tx×Int=>JK r (Do r) s.1 s.2) ([],0)=some b:=h1;rw [h1',h2];rfl
theorem pY (x:Tx):TT x=some (aB x):=by
 unfold TT aB
 cases h:x.Recs with
 |nil=>rfl
 |cons q m=>
  rw [Ad (by rw [BG,A0];omega:ln (q::m)>0),show gi (q::m) 0=some q from A9 (i:=0)];rfl
theorem Zn (h:Dn s) (a:List De) (hr:a.length<=1048576):P2 s a=Jq s a:=by
 have hl:=h.len;have f:=Ll h.ar (by have:=h.few;omega);have d:=FZ s f (by omega);have c:=QO s f (by omega);unfold P2 Jq;rw [d,c];simp only [Aa];obtain⟨b,h1,h2,_⟩:=MS (body:=λq:Int×List Vol×List BL×Int=>DO s a q.1 q.2.1 q.2.2.1 q.2.2.2) (body':=λq:Int×List Vol×List BL×Int=>HA s a q.1 q.2.1 q.2.2.1 q.2.2.2) (λ(t:Store) i=>(i,t.Vols,t.Arena.Knots,t.Next)) a.length (λ_ t=>Dn t) (λ_=>True)
  (λt i hi hP=>by
   have hx:=Ac hi;have g:Store.mk t.Vols (Arena.mk t.Arena.Knots) t.Next=t:=rfl;have e:=Ya hP a[i];simp only [DO,HA,AC,Ad hi,Ae,A9,hx,Aa];rw [g,mO hP];unfold Lb at e;split at e
   ·rw [e];simp only [Aa,AG,Ae];rw [d,c];exact⟨rfl,.inr ⟨_,rfl,trivial⟩⟩
   obtain⟨u,u1,u2,_⟩:=e;rw [u1];simp only [Aa,Ai,Ab];rw [ad1 (by omega)]
   exact⟨by first|rfl|trivial,.inl ⟨u,rfl,u2⟩⟩)
  (λt _=>⟨by simp only [DO,HA,AC,Ao,Aq,Ab],.inl (t.Vols,t.Arena.Knots,t.Next),by simp only [DO,AC,Ao,Aq,Ab],trivial⟩) (s:=s) h
 have e1:Au (λq:Int×List Vol×List BL×Int=>DO s a q.1 q.2.1 q.2.2.1 q.2.2.2) (0,s.Vols,s.Arena.Knots,s.Next)=some b:=h1;have e2:Au (λq:Int×List Vol×List BL×Int=>HA s a q.1 q.2.1 q.2.2.1 q.2.2.2) (0,s.Vols,s.Arena.Knots,s.Next)=some b:=h2;rw [e1,e2]
theorem XN (l:List Tx) (hl:l.length<=1048576) (hr:∀x∈l,x.Recs.length<=20000):N6 l=some (Dc l):=by
 unfold N6;obtain⟨b,h1,h2⟩:=Bg (body:=λs:Int×Int=>GL l s.1 s.2) (λ(o:Int) i=>(o,i)) l.length (λi o=>o=(lQ (l.take i):Int)) (λb=>b=(lQ l:Int))
  (λo i hi ho=>by
   have hx:=Ac hi;have et:l.take (i+1)=l.take i++ [l[i]]:=Av hi;have a:(l.take i).length=i:=by rw [AH];omega
   simp only [GL,AC,Ad hi,Ae,A9,hx,Aa];rw [ad1 (by omega),pY];simp only [Aa];refine .inl ?_
   cases hb:aB l[i]with
   |true=>exact⟨(i:Int),rfl,by rw [et,PF,Ax hb,a]⟩
   |false=>exact⟨o,rfl,by rw [et,PF,Ay (by rw [hb];simp),ho]⟩)
  (λo ho=>⟨o,by simp only [GL,AC,Ao,Aq,Ab],by rw [ho,AN]⟩) (s:=0) rfl
 have h1':Au (λs:Int×Int=>GL l s.1 s.2) (0,0)=some b:=h1;rw [h1',h2];simp only [Aa];have d:=lP l;have hd:dr l (lQ l:Int) (ln l)=some (Dc l):=by
  unfold dr;rw [BG,Ax (by omega),Ba,Ba,AO (by simp)];rfl
 rw [hd];simp only [Aa];obtain⟨b1,b2⟩:=Rn l;obtain⟨c,q1,q2⟩:=Bg (body:=λs:List Tx×Int=>GK (Dc l) s.1 s.2) (λ(o:List Tx) i=>(o,i)) (Dc l).length (λi o=>o=(Dc l).take i) (λb=>b=Dc l)
  (λo i hi ho=>by
   have hx:=Ac hi;have e:=hr _ (b2 _ (AE hi));have et:(Dc l).take (i+1)=(Dc l).take i++ [(Dc l)[i]]:=Av hi;have f:o.length<=1048576:=by rw [ho,AH];omega
   simp only [GK,AC,Ad hi,Ae,A9,hx,Aa];rw [KS (by omega)];simp only [Aa];rw [Cn (by simp only [Ak];omega)];simp only [Aa];rw [ad1 (by omega)]
   exact .inl ⟨_,rfl,by rw [et,<-ho]⟩)
  (λo ho=>⟨o,by simp only [GK,AC,Ao,Aq,Ab],by rw [ho,AN]⟩) (s:=[]) rfl
 have q1':Au (λs:List Tx×Int=>GK (Dc l) s.1 s.2) ([],0)=some c:=q1;rw [q1',q2];rfl
theorem dI (h:zB f r):RE f=some (Dg r-1):=by
 have a:=h.len;unfold RE;rw [h.i];simp only [Aa];obtain⟨b,h1,h2⟩:=Bg (body:=λs:Int×Int=>IL r s.1 s.2) (λ(o:Int) i=>(o,i)) r.length (λi o=>o=Dg (r.take i)-1) (λb=>b=Dg r-1)
  (λo i hi ho=>by
   have hx:=Ac hi;have et:r.take (i+1)=r.take i++ [r[i]]:=Av hi;simp only [IL,AC,Ad hi,Ae,A9,hx,Aa];rw [ad1 (by omega)];refine .inl ⟨_,rfl,?_⟩;rw [et,Wm,ho];by_cases e:r[i].Page.Seq>=Dg (r.take i)
   ·rw [Ax (by omega),Ax e];omega
   rw [Ay (by omega),Ay e])
  (λo ho=>⟨o,by simp only [IL,AC,Ao,Aq,Ab],by rw [ho,AN]⟩) (s:=0) (by simp [Dg])
 have h1':Au (λs:Int×Int=>IL r s.1 s.2) (0,0)=some b:=h1;rw [h1',h2];rfl
theorem lA (r:List A8) (hr:Gs r):Au (λs:Int×Int=>H9 r s.1 s.2) (0,1)=some (D9 r):=by
 have a:=hr.len;obtain⟨b,h1,h2⟩:=Bg (body:=λs:Int×Int=>H9 r s.1 s.2) (λ(o:Int) i=>(i,o)) r.length (λi o=>o=D9 (r.take i)) (λb=>b=D9 r)
  (λo i hi ho=>by
   have hx:=Ac hi;have ht:=hr.tx _ (AE hi);have et:r.take (i+1)=r.take i++ [r[i]]:=Av hi;simp only [H9,AC,Ad hi,Ae,A9,hx,Aa];rw [ad1 (by omega),CA (by omega) (by omega)];refine .inl ?_;by_cases e:r[i].Page.Kind=2
   ·rw [show(r[i].Page.Kind==2)=true by simpa using e];refine⟨_,rfl,?_⟩;rw [et,Tg,ho];by_cases e2:r[i].Page.Tx>=D9 (r.take i)
    ·rw [Ax (by omega),Ax ⟨e,e2⟩]
    rw [Ay (by omega),Ay λhh=>e2 hh.2]
   rw [show(r[i].Page.Kind==2)=false by simpa using e];refine⟨_,rfl,?_⟩
   rw [et,Tg,ho,Ay λhh=>e hh.1])
  (λo ho=>⟨o,by simp only [H9,AC,Ao,Aq,Ab],by rw [ho,AN]⟩) (s:=1) rfl
 rw [<-h2];exact h1
theorem XP (l:List Tx) (hl:l.length<=1048576) (hr:∀x∈l,x.Recs.length<=20000):Au (λs:Int×List Vol×List BL×Int×Int=>Gq l s.1 s.2.1 s.2.2.1 s.2.2.2.1 s.2.2.2.2) (0,[],[],1,0)=Au (λs:Int×List Vol×List BL×Int×Int=>Dy l s.1 s.2.1 s.2.2.1 s.2.2.2.1 s.2.2.2.2) (0,[],[],1,0):=by
 obtain⟨b,h1,h2,_⟩:=MS (body:=λs:Int×List Vol×List BL×Int×Int=>Dy l s.1 s.2.1 s.2.2.1 s.2.2.2.1 s.2.2.2.2) (body':=λs:Int×List Vol×List BL×Int×Int=>Gq l s.1 s.2.1 s.2.2.1 s.2.2.2.1 s.2.2.2.2) (λ(o:Store×Int) i=>(i,o.1.Vols,o.1.Arena.Knots,o.1.Next,o.2)) l.length (λ_ o=>Dn o.1) (λ_=>True)
  (λo i hi hP=>by
   obtain⟨t,b0⟩:=o;simp only at hP;have hx:=Ac hi;have d:=hr _ (AE hi);have c:Store.mk t.Vols (Arena.mk t.Arena.Knots) t.Next=t:=rfl;simp only [Dy,Gq,AC,Ad hi,Ae,A9,hx,Aa];rw [c,Zn hP _ (by omega),ad1 (by omega)];have a:=QZ hP l[i].Recs (by omega);unfold MV at a;obtain⟨j,hj⟩:∃j,(bif((i:Int)==0)then(some l[i].Num)else(some b0):Option Int)=some j:=by
    cases((i:Int)==0)with
    |true=>exact⟨_,rfl⟩
    |false=>exact⟨_,rfl⟩
   rw [hj];simp only [Aa];split at a
   ·rw [a];exact⟨rfl,.inl ⟨(t,j),rfl,hP⟩⟩
   obtain⟨u,u1,u2,_⟩:=a;rw [u1]
   exact⟨rfl,.inl ⟨(u,j),rfl,u2⟩⟩)
  (λo _=>⟨by simp only [Dy,Gq,AC,Ao,Aq,Ab],(o.1.Vols,o.1.Arena.Knots,o.1.Next,o.2),by simp only [Dy,AC,Ao,Aq,Ab],trivial⟩) (s:=(Store.mk [] (Arena.mk []) 1,0)) Z0
 have e1:Au (λs:Int×List Vol×List BL×Int×Int=>Dy l s.1 s.2.1 s.2.2.1 s.2.2.2.1 s.2.2.2.2) (0,[],[],1,0)=some b:=h1;have e2:Au (λs:Int×List Vol×List BL×Int×Int=>Gq l s.1 s.2.1 s.2.2.1 s.2.2.2.1 s.2.2.2.2) (0,[],[],1,0)=some b:=h2;rw [e1,e2]
theorem Zm (hf:BN f):P1 f=CL f:=by
 obtain⟨r,hs,_⟩:=vG hf;have hr:=UK hs hf;obtain⟨g1,g2⟩:=SI hr;obtain⟨b1,b2⟩:=Rn (Bz r);have a:=NN r;have b:Dg r<=1000000001:=a.2.2 _ (by omega) (λy hy=>by have:=(hr.seq y hy).2;omega);unfold P1 CL;rw [P5,O7 hf,hs.s,hs.i,Dp f hf.cap,Kp,Dp f hf.cap,dI hs];unfold ME Ps;simp only [Aa,Ai,Ab];rw [T4 r hr,lA r hr,Qt r hr,gW r hr];simp only [Aa];rw [Qs _ g1 g2,XN _ g1 g2];simp only [Aa];rw [XP (Dc (Bz r)) (by omega) (λx hx=>g2 x (b2 x hx)),CA (by omega) (by omega),show Dg r-1+1=Dg r by omega]
theorem Zt {c:Nat} {s:Bu} (hc:s.Block=(c:Int)) (B:Int×List Block->Option ((Int×List Block)⊕List Block)) (hB:∀i bl,B (i,bl)=I4 s i bl):∀(n i:Nat) (bl:List Block) (x:Block),bl[c]?=some x->i+n=x.Leaves.length->x.Leaves.length<=4->(∀(k:Nat),k<i->x.Leaves[k]?=some (Leaf.mk 2 (bs [])))->
  Au B ((i:Int),bl)=some (bl.set c (Block.mk x.Bad x.Wear (List.replicate x.Leaves.length (Leaf.mk 2 (bs [])))))
 |0,i,bl,x,hx,hi,h4,hk=>by
  rw [A7,hB];simp only [I4,hc,A9,hx,Aa,AC];rw [Af (by omega),Ab];have e:x.Leaves=List.replicate x.Leaves.length (Leaf.mk 2 (bs [])):=by
   apply Co;intro k;rw [List.getElem?_replicate];by_cases q:k<x.Leaves.length
   ·rw [Ax q,hk k (by omega)]
   rw [Ay q,CN (by omega)]
  rw [<-e];simp only [Aa];have:bl.set c x=bl:=by
   apply Co;intro k;rw [BI];split
   ·rename_i q;subst q;split
    ·rw [hx]
    rename_i q2;rw [CN (by omega)]
   rfl
  cases x;simp only at this⊢;rw [this]
 |n+1,i,bl,x,hx,hi,h4,hk=>by
  have a:i<x.Leaves.length:=by omega
  have hl:=Ac a;have b:=(Ah.1 hx).1;rw [A7,hB];simp only [I4,hc,A9,hx,Aa,AC,Ad a,Ae,hl,Ep];rw [ad1 (by omega)]
  have:=Zt (s:=s) hc B hB n (i+1) (bl.set c (Block.mk x.Bad x.Wear (x.Leaves.set i (Leaf.mk 2 (bs []))))) (Block.mk x.Bad x.Wear (x.Leaves.set i (Leaf.mk 2 (bs [])))) (by rw [BI];simp [b]) (by simp;omega) (by simpa using h4) (λk d=>by
   rw [BI];by_cases q:i=k
   ·subst q;simp [a]
   rw [Ay q];exact hk k (by omega))
  rw [this];simp
theorem AAh {s:Bu} (h:BN f) (hs:Qj f s):∃g,Rs f s=some (g,true)/\rC f s g:=by
 have hd:Ja f s=some (Jy f s,true):=by
  rcases OV h s with⟨_,e⟩|⟨e,_⟩
  ·exact e
  exact absurd hs e
 unfold Rs;rw [hd,Dp f h.cap];simp only [Aa,Ai,Ab]
 rcases hs with⟨k1,hm⟩|⟨k1,hc⟩
 ·rw [show(s.Kind==1)=true by simpa using k1];simp only [Ae];obtain⟨_,_,A,B,e1,_,e2⟩:=Pg h hm;obtain⟨x,x1,x2,x3,x4,x5,x6⟩:=hm;have hP:=h.blk x (A3 (Dd x1).2);rw [x1];simp only [Aa];have hq:qu (Fz s.Text) 2=(((L s.Text).length/2:Nat):Int):=by
   rw [BH];unfold qu;rw [show Int.tdiv ((L s.Text).length:Int) 2=(((L s.Text).length/2:Nat):Int)from(Int.ofNat_tdiv _ 2).symm];exact NK (by omega) (by omega)
  rw [hq,show sub s.Text 0 (((L s.Text).length/2:Nat):Int)=sub s.Text ((0:Nat):Int) (((L s.Text).length/2:Nat):Int)from rfl,EV s.Text (Ku _) (by omega)];simp only [Aa];have hx:gi x.Leaves s.Leaf=some (x.Leaves[LE x.Leaves]'(by rw [hP.four];exact x4)):=by
   rw [x3,A9];exact Ac _
  rw [hx];simp only [Aa];refine⟨_,rfl,?_,λn hw=>aY hw (hw x (A3 (Dd x1).2)),.inl ⟨k1,?_⟩⟩
  ·obtain⟨b0,b1⟩:=Dd x1;obtain⟨c,a⟩:∃c:Nat,s.Block=(c:Int):=⟨_,(Bm b0).symm⟩;rw [a,x3,Ep,Ep];refine L8 h (SC hP rfl x4 (.inr (.inr ⟨rfl,?_⟩)) (by simp));show(L (s.Text.extract 0 ((L s.Text).length/2))).length<=120;have:(L (s.Text.extract 0 ((L s.Text).length/2))).length<=(L s.Text).length:=by
    rw [HM];simp;omega
   omega
  have:=e2 (s.Text.extract 0 ((L s.Text).length/2));unfold prog at this;rw [x1]at this;rw [e1];exact this
 rw [show(s.Kind==1)=false by simp;omega];simp only [Ab];obtain⟨x,x1,x2,x3⟩:=hc;obtain⟨b0,b1⟩:=Dd x1;obtain⟨c,a⟩:∃c:Nat,s.Block=(c:Int):=⟨_,(Bm b0).symm⟩;rw [a,Ba]at b1;have hP:=h.blk x (A3 b1);have hl:=Zt (s:=s) a (λq:Int×List Block=>I4 s q.1 q.2) (λ_ _=>rfl) x.Leaves.length 0 f.Blocks x b1 (by omega) (by rw [hP.four];omega) (λk hk=>by omega);rw [show((0:Nat):Int)=0 from rfl]at hl;rw [hl];refine⟨_,rfl,?_,λn hw y hy=>?_,.inr ⟨k1,?_⟩⟩
 ·refine L8 h ⟨by simp [hP.four],hP.wear,λy hy=>?_,λk y z hy hz h0=>?_⟩
  ·rw [Cr hy];exact .inr (.inr ⟨rfl,by rw [DV];simp⟩)
  have:=Cr (A3 hy);rw [this]at h0;cases h0
 ·rcases Ck hy with hy|rfl
  ·exact hw y hy
  exact hw x (A3 b1)
 rw [a];exact V9 b1 (TF _ _ _ λy hy=>by rw [Cr hy];simp)
theorem mQ {ss:List Bu} (hf:BN f) (hk:k<=ss.length) (hl:ss.length<=1000000) (h:∃m,Steps f ss m) (torn:Bool):∃g,OW f ss (k:Int) torn=some (g,true)/\BN g/\Yd f ss k g:=by
 obtain⟨z,hz⟩:=h;rw [<-Bt k ss]at hz;obtain⟨m,h1,h2⟩:=(Mz _ _ _ _).1 hz;have hm:=Un hf h1;unfold OW;rw [BG,E4];simp only [Aa];rw [Ad (by omega:0<=(k:Int)/\(k:Int)<=(ss.length:Int))];simp only [Ai,Ab];have b:dr ss 0 (k:Int)=some (ss.take k):=by
  unfold dr;rw [Ax (by omega)];simp
 have a:(ss.take k).length=k:=by rw [AH];omega
 rw [b];simp only [Aa];rw [Qv hf h1 (by omega),a];simp only [Aa];rw [Af (by omega:¬(k:Int)<(k:Int))];simp only [Ab]
 cases torn with
 |false=>exact⟨m,rfl,hm,m,h1,.inl rfl⟩
 |true=>
  simp only [Ai,Ab,Aa];by_cases e:k=ss.length
  ·rw [show((k:Int)==(ss.length:Int))=true by simp;omega];exact⟨m,rfl,hm,m,h1,.inl rfl⟩
  rw [show((k:Int)==(ss.length:Int))=false by simp;omega];simp only [Ab];have hx:=Ac (show k<ss.length by omega);rw [Bj (show k<ss.length by omega)]at h2;rw [A9,hx];simp only [Aa];obtain⟨g,g1,g2⟩:=AAh hm h2.1;rw [g1];exact⟨g,rfl,g2.1,m,h1,.inr ⟨_,hx,h2.1,g2⟩⟩
theorem i7 (hf:BN f) (l:List Bu) (hl:l.length<=1048576):∃g n,H1 f l=some (g,n)/\BN g:=by
 unfold H1;rw [Dp f hf.cap];simp only [Aa];obtain⟨b,h1,g,n,h2,h3⟩:=Bg (body:=λs:Int×List Block=>D5 l s.1 s.2) (λ(o:Flash) i=>(i,o.Blocks)) l.length (λ_ o=>BN o) (λb=>∃g n,(b= .inl g.Blocks/\n=ln l\/b= .inr (g,n))/\BN g)
  (λo i hi ho=>by
   have hx:=Ac hi;have a:Flash.mk o.Blocks=o:=rfl;simp only [D5,AC,Ad hi,Ae,A9,hx,Aa];rw [a]
   rcases OV ho l[i]with⟨k1,k2⟩|⟨_,k2⟩
   ·rw [k2];simp only [Aa,Ai,Ab];rw [ad1 (by omega)];exact .inl ⟨Jy o l[i],rfl,m8 ho k1⟩
   rw [k2]
   exact .inr ⟨_,rfl,o,(i:Int),.inr rfl,ho⟩)
  (λo ho=>⟨.inl o.Blocks,by simp only [D5,AC,Ao,Aq,Ab],o,ln l,.inl ⟨rfl,rfl⟩,ho⟩) (s:=f) hf
 have h1':Au (λs:Int×List Block=>D5 l s.1 s.2) (0,f.Blocks)=some b:=h1;rw [h1']
 rcases h2 with⟨rfl,rfl⟩|rfl
 ·exact⟨g,_,rfl,h3⟩
 exact⟨g,n,rfl,h3⟩
theorem Zj (hf:BN d.Flash) (l:List Bu) (hl:l.length<=1048576):Pt d l=Hg d l:=by
 obtain⟨g,n,h1,h2⟩:=i7 hf l hl;obtain⟨g',n',h3,h4,_⟩:=mP d.Flash l hf.cap hl;rw [h1]at h3
 injection h3 with h3
 unfold Pt Hg;rw [h1,h4,<-h3];simp only [Aa];rw [Zm h2]
theorem XV (hs:code.length<=1048576):M3 code=some true:=by
 obtain⟨d,r,d1,d2,d3,d4⟩:=eG hs;obtain⟨q,q1,q2⟩:=qT hs;obtain⟨a,b,no,p1,p2,p3⟩:=Y1 d2.dev q;obtain⟨recs',text',no',t1,t2,_⟩:=vJ d2.dev (by omega) q;rw [p1]at t1
 injection t1 with t1
 obtain⟨rfl,rfl,rfl⟩:a=recs'/\b=text'/\no=no':=by injection t1 with e1 e2;injection e2 with e2 e3;exact⟨e1,e2,e3⟩
 have h:a.length<=1:=by rcases p2 with⟨rfl,_⟩|⟨_,x,rfl,_⟩<;>simp
 obtain⟨st,ok,w1,w2,_⟩:=Zh d d2.dev.fl.cap a (by omega) b;unfold M3;have hb:WG code=some false:=by
  unfold WG;rw [BG,Af (by omega)]
 rw [hb];simp only [Aa,Ab];rw [d1];simp only [Aa];rw [q1];simp only [Aa];rw [p1];simp only [Aa];rw [w2,w1];simp only [Aa,Vl,Ai,Ab]
 have none:∀st,st=[]->((Lm st st).bind λv7=>some (!v7))=some false:=λst e=>by rw [e,Qn [] (by simp)];rfl
 rcases p2 with⟨rfl,rfl⟩|⟨rfl,x,rfl,p4⟩
 ·have hw:D4 d [] (bs [])=some ([],true):=rfl;rw [hw]at w1
  injection w1 with w1
  injection w1 with e1 e2
  subst e1 e2;rw [none [] rfl];simp only [Aa,Ab,Ai];cases(no !=0)<;>rfl
 rcases mV d2 p4 with w|⟨steps,d',r',a1,a2,a3,a4,a5,_,_,_,_,a8,a9,a10⟩
 ·rw [w]at w1
  injection w1 with w1
  injection w1 with e1 e2
  subst e1 e2;rw [none [] rfl];rfl
 rw [a1]at w1
 injection w1 with w1
 injection w1 with e1 e2
 subst e1 e2;rw [Qn steps (by omega)];simp only [Aa,Ai,Ab,bne_self_eq_false];rw [show(ln [x]==0)=false from rfl];simp only [Ab];rw [Zj d2.dev.fl _ (by omega),a3];simp only [Aa];have c:=QZ d2.dev.st [x] (by simp);unfold MV at c;obtain⟨p,hp⟩:∃p,D7 (BJ d.Store) d.Store.Next x=some p:=by
  rcases t2 with t2|⟨x',p,t2,t3⟩
  ·cases t2
  injection t2 with t2 _
  subst t2;exact⟨p,t3⟩
 have f:CV (BJ d.Store) d.Store.Next [x]=some p:=by rw [EI,hp];rfl
 rw [f]at c;rw [hp,B6]at a5;obtain⟨t,u1,u2,u3,u4⟩:=c;rw [u1];simp only [Aa];have hk:sb (ln steps) 1=((steps.length-1:Nat):Int):=by rw [BG,Cw (by omega) (by omega)];omega
 rw [hk];obtain⟨g,s1,s2,s3⟩:=mQ d2.dev.fl (k:=steps.length-1) (by omega) (by omega) ⟨_,a8⟩ true;rw [s1];simp only [Aa];obtain⟨y,ry,y1,y2,y3,_⟩:=a10 (steps.length-1) g (by omega) s3;rw [y1];simp only [Aa];rw [Qv d2.dev.fl a8 (by omega),BG];simp only [Aa,Ae,Vl];have e1:=BR Prod.fst a5;have e2:=BR Prod.snd a5;simp only at e1 e2;rw [Rg a4.dev.st u2,Ad ⟨by rw [e1,u3],by rw [e2,u4]⟩];simp only [Aa,Ae];rw [T8 a4.dev,Rg y3.good.dev.st d2.dev.st,Ad ⟨y3.ab,y3.nx⟩];rfl
theorem fnWrites_true (code:List Int) (hc:ol (oK .u8) code):M3 code=some true:=by
 by_cases h:code.length<=1048576
 ·exact XV h
 unfold M3;have hb:WG code=some true:=by
  unfold WG;rw [BG,Ad (by omega)]
 rw [hb];rfl
end Go.TI
