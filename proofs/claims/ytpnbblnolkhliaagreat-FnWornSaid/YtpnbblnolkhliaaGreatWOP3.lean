/- Lives without torn steps: blocks are worn as often as they were wiped, and what is done is lawful. No condition; no program is in sight. -/
import Derived.Test.YtpnbblnolkhliaaGreatWOP2
set_option linter.unusedVariables false
set_option linter.unusedSimpArgs false
namespace Go.TI
open Go
variable {r a b r':List Ap} {d e:Device} {n k m:Nat} {s:Store} {y:Ap} {f g:Flash} {c:BQ} {T:List ByteArray} {p:Page} {q:Ask} {nd:List Bool} {l:List Int} {K:Ks} {v:Vol}
theorem eE (h:Hc d r):∃v,LF d=some v:=by
 have hr:=h.pages;unfold LF
 cases(d.Base !=sb d.Tx 1)with
 |true=>exact⟨_,rfl⟩
 |false=>
  rw[h.scan.s,Aa,Pc r hr];simp only[Aa];obtain⟨g1,_⟩:=Vo hr;obtain⟨b,h1,_⟩:=AG (body:=λs:Int=>G7 d (Be r) s) (λ(_:Unit) i=>i) (Be r).length (λ_ _=>True) (λ_=>True)
   (λ_ i hi _=>by
    have hx:=Ab hi;simp only[G7,DH hi,Au,hx,Aa];rw[ad1]
    cases((Be r)[i].Num==d.Base)with
    |false=>simp
    |true=>
     cases a:(Be r)[i].Recs with
     |nil=>exact .inr ⟨_,rfl,trivial⟩
     |cons q m=>
      have hg:gi (q::m) 0=some q:=Au (i:=0)
      grind)
   (λ_ _=>⟨.inl (),by simp only[G7,Dy],trivial⟩) (s:=()) trivial
  rw[h1]
  cases b with
  |inl u=>exact⟨_,rfl⟩
  |inr v=>exact⟨v,rfl⟩
theorem eJ (h:Hc d r):∃v,LK d=some v:=by
 have hn:=h.fl.n;obtain⟨live,l1,_,_,l4⟩:=Hv h.st;unfold LK;rw[h.scan.s,l1];simp only[Aa];rw[N9 r live d.Base h.scan.len l4,N9 r live 1000000000 h.scan.len l4]
 have a:∀b,live.foldl (e9 r) (r.map<|DC b)=C8 r live b:=λ_=>rfl
 rw[a,a];obtain⟨b,h1,_⟩:=AG (body:=λs:Int×Int×Int=>D9 d r (C8 r live d.Base) (C8 r live 1000000000) s.1 s.2.1 s.2.2) (λ(o:Int×Int) i=>(o.1,o.2,i)) d.Flash.Blocks.length (λ_ _=>True) (λ_=>True)
  (λo i hi _=>by
   have hx:=Ab hi;have hP:=h.fl.blk _<|Aw hi;simp only[D9,DH hi,Au,hx,Aa];rw[aX r _ (i:Int) h.scan.len<|Kx _ _ _,aX r _ (i:Int) h.scan.len<|Kx _ _ _,KO _ hP.four,ad1];simp only[Aa,JH]
   cases(bif !d.Flash.Blocks[i].Bad then _ else false)with
   |true=>simp
   |false=>grind)
  (λo _=>⟨o.1,by simp only[D9,Dy],trivial⟩) (s:=(-1,4)) trivial
 grind
theorem Hc.seqs (h:Hc d r):0<=d.Seq/\d.Seq<=1000000001:=by
 rw[h.seq];have h1:=Ok r;refine⟨by omega,h1.2.2 _ (by omega) λy hy=>?_⟩;have:=(h.pages.seq y hy).2;omega
theorem j9 (h:∀y∈r',y.Page.Kind=2->y.Page.Tx<Ex r+n):Ex r'<=Ex r+n:=(kA r').2.2 _ (by have:=(kA r).2.1;omega) h
theorem Zf (n:Nat) (hy:y∈r) (hk:y.Page.Kind=2):y.Page.Tx<Ex r+n:=by have:=(kA r).1 y hy hk;omega
theorem iI {seq tx:Int} (h:p∈Cs seq tx T):p.Tx=tx:=by
 unfold Cs at h
 grind
theorem kJ (h:∀y∈r',y.Page.Seq<Dm r+n):Dm r'<=Dm r+n:=(Ok r').2.2 _ (by have:=(Ok r).2.1;omega) h
theorem Zh (n:Nat) (hy:y∈r):y.Page.Seq<Dm r+n:=by have:=(Ok r).1 y hy;omega
theorem tT {seq tx:Int} (h:p∈Cs seq tx T):p.Seq<seq+T.length:=by
 unfold Cs at h
 grind
theorem gA {c:Int} {a:ByteArray} (h:p∈CN d c a++Cs (Io d a) d.Tx T):p.Seq<d.Seq+1+T.length:=by
 rcases Ao.1 h with h|h
 ·unfold CN at h
  grind
 have h1:=tT h;have h2:Io d a<=d.Seq+1:=by unfold Io;split<;>omega
 omega
theorem Pi {seq tx:Int} (h:p∈Cs seq tx T):p.Kind=2:=by
 unfold Cs at h
 grind
def AAN (m:Flash) (s:AO) (g:Flash):Prop:=Bu g/\ZF m g/\((s.Kind=1/\KR 0 g.Blocks=KR 0 m.Blocks)\/(s.Kind=2/\KR 0 g.Blocks=(KR 0 m.Blocks).filter λy=>y.Block !=s.Block))
def Y5 (f:Flash) (ss:List AO) (k:Nat) (g:Flash):Prop:=∃m,Steps f (ss.take k) m/\(g=m\/∃s,ss[k]?=some s/\Q4 m s/\AAN m s g)
theorem Qp:∀{f:Flash} {a:List AO} {g m:Flash},Steps f a g->Steps f a m->g=m
 |f,[],g,m,h,k=>by rw[show g=f from h,show m=f from k]
 |f,s::a,g,m,h,k=>Qp h.2 k.2
theorem jF {m:Flash} {a b:List AO} (h:Y5 f (a++b) k g) (hs:Steps f a m):(k<a.length/\Y5 f a k g)\/(a.length<=k/\Y5 m b (k-a.length) g):=by
 obtain⟨x,h1,h2⟩:=h;by_cases e:k<a.length
 ·left;rw[List.take_append_of_le_length<|by omega]at h1;rw[Ch e]at h2;exact⟨e,x,h1,h2⟩
 right;rw[List.take_append,AK<|by omega]at h1;rw[B6<|by omega]at h2;obtain⟨y,y1,y2⟩:=(HT _ _ _ _).1 h1;rw[Qp y1 hs]at y2;exact⟨by omega,x,y2,h2⟩
structure JN (n:Nat) (d:Device) (r:List Ap) (d':Device) (r':List Ap):Prop where
 good:JO d' r'
 ab:AL d'.Store=AL d.Store
 nx:d'.Store.Next=d.Store.Next
 pg:∀y∈r',y.Page.Kind=1->∃z∈r,z.Page.Kind=1/\z.Page.Tx=y.Page.Tx/\z.Page.Text=y.Page.Text
 tx:Ex r'<=Ex r+n
 wear:∀w:Int,Gi d.Flash w->Gi d'.Flash (w+n)
 text:∀c,DJ (AL d.Store) c->Cb r' c=Cb r c
 sq:Dm r'<=Dm r+200*n
structure As (d:Device) (r:List Ap) (d':Device) (r':List Ap):Prop where
 good:JO d' r'
 ab:AL d'.Store=AL d.Store
 nx:d'.Store.Next=d.Store.Next
 tx:Ex r'<=Ex r+1
 wear:∀w:Int,Gi d.Flash w->Gi d'.Flash (w+1)
 text:∀c,DJ (AL d.Store) c->Cb r' c=Cb r c
theorem As.torn (h:As d a e b) (hg:Bu g) (hp:KR 0 g.Blocks=KR 0 e.Flash.Blocks) (hw:ZF e.Flash g):∃x,C7 g=some (x,true)/\x.Flash=g/\As d a x b:=by
 obtain⟨x,u1,u2,u3⟩:=Ng hg (r:=b) (by rw[hp];exact h.good.dev.sr);obtain⟨e1,e2,_⟩:=Ip h.good.dev u2 rfl;exact⟨x,u1,u3,⟨⟨u2,h.good.core,by rw[e1];exact h.good.data⟩,by rw[e1,h.ab],by rw[e2,h.nx],h.tx,λw hh=>by rw[u3];exact hw _<|h.wear w hh,h.text⟩⟩
theorem Zc (h:ZF f g) (w:Int) (hw:Gi f w):Gi g (w+n):=λb hb=>by have:=h w hw b hb;omega
theorem JN.refl (h:JO d r):JN n d r d r:=⟨h,rfl,rfl,λy hy hk=>⟨y,hy,hk,rfl,rfl⟩,by omega,Zc λ_ h=>h,λ_ _=>rfl,by omega⟩
theorem JN.trans {g:Device} {c:List Ap} (h:JN n d a e b) (k:JN m e b g c):JN (n+m) d a g c:=⟨k.good,by rw[k.ab,h.ab],by rw[k.nx,h.nx],λy hy hk=>by
 obtain⟨z,z1,z2,z3,z4⟩:=k.pg y hy hk;obtain⟨w,w1,w2,w3,w4⟩:=h.pg z z1 z2
 grind,by have:=h.tx;have:=k.tx;omega,λw hw=>by
 have:=k.wear _<|h.wear w hw
 grind,λc hc=>by rw[k.text c (by rw[h.ab];exact hc),h.text c hc],by have:=h.sq;have:=k.sq;omega⟩
theorem JN.mono (h:JN n d a e b) (hm:n<=m):JN m d a e b:={h with
 tx:=by have:=h.tx;omega
 wear:=λw hw x hx=>by have:=h.wear w hw x hx;omega
 sq:=by have:=h.sq;omega}
theorem JN.torn (h:JN n d a e b) (hg:Bu g) (hp:KR 0 g.Blocks=KR 0 e.Flash.Blocks) (hw:ZF e.Flash g):∃x,C7 g=some (x,true)/\x.Flash=g/\JN n d a x b:=by
 obtain⟨x,u1,u2,u3⟩:=Ng hg (r:=b) (by rw[hp];exact h.good.dev.sr);obtain⟨e1,e2,_⟩:=Ip h.good.dev u2 rfl;exact⟨x,u1,u3,⟨⟨u2,h.good.core,by rw[e1];exact h.good.data⟩,by rw[e1,h.ab],by rw[e2,h.nx],h.pg,h.tx,λw hh=>by rw[u3];exact hw _<|h.wear w hh,h.text,h.sq⟩⟩
def L7 (n:Nat) (d:Device) (r:List Ap) (steps:List AO):Prop:=(∃m,Steps d.Flash steps m)/\∀k g,k<=steps.length->Y5 d.Flash steps k g->∃x rx,C7 g=some (x,true)/\x.Flash=g/\JN n d r x rx
theorem iE {steps:List AO} (h1:∀s∈steps,s.Kind=1) (hc:∀k,k<=steps.length->∃x rx,Steps d.Flash (steps.take k) x.Flash/\C7 x.Flash=some (x,true)/\JN n d r x rx):L7 n d r steps:=by
 refine⟨?_,λk g hk hg=>?_⟩
 ·obtain⟨x,rx,c1,_⟩:=hc steps.length (Az _)
  grind
 obtain⟨x,rx,c1,c2,c3⟩:=hc k hk;obtain⟨m,m1,m2⟩:=hg;have:=Qp m1 c1;subst this
 rcases m2 with rfl|⟨s,s1,_,s2,s3,⟨_,s4⟩|⟨s4,_⟩⟩
 ·grind
 ·obtain⟨y,y1,y2,y3⟩:=c3.torn s2 s4 s3
  grind
 grind
theorem L7.full {steps:List AO} (h:JO d r) (hc:L7 n d r steps) (hl:steps.length<=1000000):∃x rx,Hu d steps=some x/\Steps d.Flash steps x.Flash/\JN n d r x rx:=by
 obtain⟨⟨m,hm⟩,hk⟩:=hc;obtain⟨x,rx,x1,x2,x3⟩:=hk steps.length m (Az _) ⟨m,by grind,.inl rfl⟩;exact⟨x,rx,QA h.dev hm (by omega) x1,by rw[x2];exact hm,x3⟩
theorem AAA {re:List Ap} {a b:List AO} (hk:JN n d r e re) (hs:Steps d.Flash a e.Flash) (ha:L7 n d r a) (hb:L7 m e re b):L7 (n+m) d r (a++b):=by
 refine⟨?_,λk g c hg=>?_⟩
 ·obtain⟨x,hx⟩:=hb.1;exact⟨x,(HT _ _ _ _).2 ⟨_,hs,hx⟩⟩
 rw[Ak]at c
 rcases jF hg hs with⟨e1,e2⟩|⟨e1,e2⟩
 ·obtain⟨x,rx,x1,x2,x3⟩:=ha.2 k g (by omega) e2;exact⟨x,rx,x1,x2,x3.mono<|by omega⟩
 obtain⟨x,rx,x1,x2,x3⟩:=hb.2 _ g (by omega) e2;exact⟨x,rx,x1,x2,hk.trans x3⟩
theorem bB (r m:List Ap) (c:Int) (h:∀y∈m,¬(y.Page.Kind=1/\y.Page.Tx=c)):KT (r++m) c=KT r c:=by
 unfold KT;rw[AS,Bp.2 λy hy hh=>h y hy<|SG.1 hh,AC]
theorem dY (h:JO d r) (hw:Gi d.Flash 999999999):∃steps ok,LR d=some (steps,ok)/\steps.length<=200/\(ok=false->steps=[])/\(ok=true->L7 1 d r steps):=by
 have hv:=h.dev.st.vs;obtain⟨dead,d1,d2,d3⟩:=aO h.dev;unfold LR;rw[d1];simp only[Aa]
 cases hd:dead with
 |cons b m=>
  rw[Ac (by rw[Bj,AA];omega:ln (b::m)>0),show gi (b::m) 0=some b from Au (i:=0)];refine⟨_,_,rfl,by simp,(λhh=>by cases hh),λ_=>?_⟩;obtain⟨x,x1,x2,x3⟩:=d3 b (by rw[hd];simp);have hc:ACs d.Flash b:=⟨x,x1,x2,λe=>by have:=hw x<|Ar (Cg x1).2;omega⟩;have hs:Q4 d.Flash (AO.mk 2 b 0<|bs []):= .inr ⟨rfl,hc⟩;obtain⟨w1,w2⟩:=XQ h.dev.fl hc;have he:KD d.Flash (AO.mk 2 b 0<|bs [])=Uz d.Flash b:=by rfl
  have wp:∀g,Bu g->KR 0 g.Blocks=((KR 0 d.Flash.Blocks).filter λy=>y.Block !=b)->(∀w:Int,Gi d.Flash w->Gi g (w+1))->∃x rx,C7 g=some (x,true)/\x.Flash=g/\JN 1 d r x rx:=by
   intro g g1 g2 g3;obtain⟨d',u1,u2,u3,u4,u5,_,u6⟩:=ACT h x3 g1 g2;exact⟨d',_,u1,u2,u3,u4,u5,λy hy hk=>⟨y,(AY.1 hy).1,hk,rfl,rfl⟩,j9 λy hy hk=>Zf _ (AY.1 hy).1 hk,by rw[u2];exact g3,u6,kJ (n:=200*1) λy hy=>Zh _ (AY.1 hy).1⟩
  refine⟨⟨_,hs,rfl⟩,λk g hk hg=>?_⟩;obtain⟨q,q1,q2⟩:=hg
  cases k with
  |zero=>
   rw[show q=d.Flash from q1]at q2
   rcases q2 with rfl|⟨s,s1,_,s2,s3,⟨s4,_⟩|⟨_,s4⟩⟩
   ·obtain⟨x,u1,u2,u3⟩:=(JN.refl (n:=1) h).torn h.dev.fl rfl λ_ hh=>hh
    grind
   ·grind
   simp only[Jr,Av]at s1;rw[<-s1]at s4
   exact wp g s2 s4 λw hh y hy=>by have:=s3 w hh y hy;omega
  |succ k=>
   have q1':Steps d.Flash [AO.mk 2 b 0<|bs []] q:=by simpa using q1
   have e:q=Uz d.Flash b:=by rw[show q=KD d.Flash (AO.mk 2 b 0<|bs [])from q1'.2,he]
   rcases q2 with rfl|⟨s,s1,_⟩
   ·rw[e]
    exact wp _ w1 w2 λw hh=>by rw[<-he];exact gM hh (by omega)<|.inr<|Ju _
   simp at s1
 |nil=>
  rw[show decide (ln ([]:List Int)>0)=false from rfl];obtain⟨v,v1⟩:=eE h.dev;rw[v1];simp only[Aa]
  cases v with
  |false=>
   unfold ML;rw[Wh h.dev.st];simp only[Aa];obtain⟨b1,b2⟩:=jN hv
   rcases RE h.dev.fl h.dev.seqs (Lq (AL d.Store) d.Store.Next) (by unfold Lq;simp) b2 b1 (bs [])with w|⟨steps,T,g,f,w1,w2,w3,w4,w5,w6,w7,w8,w9⟩
   ·grind
   rw[w2];simp only[Aa];have j:=(Fq w7).2;have l:(Cs (Io d<|bs []) d.Tx T).length=T.length:=by unfold Cs;grind
   have o:CN d f.Chunk (bs [])=[]:=by rfl
   rw[o,A3,l]at j;refine⟨_,_,rfl,by omega,(λhh=>by cases hh),λ_=>iE (RG w7) λk hk=>?_⟩;obtain⟨m,d',r',c1,c2,c3,c4,c5,rfl,cw,c6,c7,c8,c9⟩:=WV h b1 w3 w4 w5 w6 w7 w9 (λhh=>absurd (Em _) hh) k hk;have a:AL d'.Store=AL d.Store/\d'.Store.Next=d.Store.Next:=by
    by_cases e:k<steps.length
    ·obtain⟨e1,e2,_⟩:=Ip h.dev c4 (by rw[c8 e]);exact⟨e1,e2⟩
    obtain⟨q,hq⟩:=(c9<|by omega).1;have hB:fB (Tx.mk d.Tx q<|Lq (AL d.Store) d.Store.Next)=true:=rfl;have a:=c4.ab;rw[hq,Tw,AH hB]at a;have:O2 [Tx.mk d.Tx q<|Lq (AL d.Store) d.Store.Next]=(AL d.Store,d.Store.Next):=by
     show(CU [] 1<|Lq (AL d.Store) d.Store.Next).getD ([],1)=_;rw[jO hv];rfl
    grind
   have hX:∀y∈(Cn steps<|CN d f.Chunk (bs [])++Cs (Io d<|bs []) d.Tx T).take k,y.Page.Kind=2/\y.Page.Tx=d.Tx:=λy hy=>by
    have cP:=MO _ _ _ y hy;exact⟨Pi cP,iI cP⟩
   refine⟨d',_,by rw[c5];exact c1,by rw[c5];exact c3,⟨c4,c6,by rw[a.1];exact c7⟩,a.1,a.2,λy hy hk=>?_,j9 λy hy hk=>?_,by rw[c5];exact Zc (n:=1) cw,λc hc=>?_,kJ (n:=200*1) λy hy=>?_⟩
   ·grind
   ·rcases Ao.1 hy with hh|hh
    ·exact Zf _ hh hk
    rw[(hX y hh).2,h.dev.tx];omega
   ·unfold Cb;rw[bB _ _ _ λy hy hh=>by grind]
   rcases Ao.1 hy with hh|hh
   ·exact Zh _ hh
   have:=gA<|MO _ _ _ y hh;rw[h.dev.seq]at this;omega
  |true=>
   simp only[An,Ad];obtain⟨vi,vi1⟩:=eJ h.dev;rw[vi1];simp only[Aa]
   cases decide (vi<0)with
   |true=>grind
   |false=>
    rcases eT h.dev h.few vi with w|⟨steps,ps,g,w1,w2,w3,w4,w5,w6,w7⟩
    ·grind
    rw[w1];refine⟨steps,true,rfl,by omega,(λhh=>by cases hh),λ_=>iE (RG w2) λk hk=>?_⟩;obtain⟨m,d',c1,c2,c3,c4,c5,c6,_,cw,c7⟩:=ABP h w2 w4 w5 w6 k;refine⟨d',_,by rw[c4];exact c1,by rw[c4];exact c3,c5,c6.ab,c6.nx,λy hy hk=>?_,j9 λy hy hk=>?_,by rw[c4];exact Zc (n:=1) cw,c7,kJ (n:=200*1) λy hy=>?_⟩
    ·rcases Ao.1 hy with hh|hh
     ·grind
     obtain⟨⟨_,_,z,z1,z2⟩,_⟩:=w6 _<|MO _ _ _ _ hh;obtain⟨a1,a2,a3⟩:=Wv z1
     grind
    ·rcases Ao.1 hy with hh|hh
     ·exact Zf _ hh hk
     have:=(w6 _<|MO _ _ _ _ hh).1.1;omega
    rcases Ao.1 hy with hh|hh
    ·exact Zh _ hh
    have:=w7 _<|MO _ _ _ _ hh;rw[h.dev.seq]at this;omega
theorem Qq (h:Bu f):∃v:Int,MF f=some v:=by
 obtain⟨v,v1,_⟩:=XK f h.cap (by have:=h.few;omega);exact⟨v,v1⟩
theorem dZ (h:JO d r) (hw:Gi d.Flash 999999000) (most:Int):∃d' all r',I5 d most=some (d',all)/\JN 20 d r d' r'/\all.length<=4000/\Steps d.Flash all d'.Flash/\L7 20 d r all:=by
 unfold I5;rw[M7 h.dev];simp only[Aa]
 have l:∀{n:Nat} {a:List AO},n<=20->L7 n d r a->L7 20 d r a:=λhn hc=>⟨hc.1,λk g hk hg=>by
  obtain⟨x,rx,x1,x2,x3⟩:=hc.2 k g hk hg
  exact⟨x,rx,x1,x2,x3.mono hn⟩⟩
 obtain⟨b,h1,d',all,r',h2,h3,h4,h5,h6⟩:=AG (body:=λs:List AO×Int×List Block×List Vol×List Bq×Int×Int×Int×Int=>E9 most s.1 s.2.1 s.2.2.1 s.2.2.2.1 s.2.2.2.2.1 s.2.2.2.2.2.1 s.2.2.2.2.2.2.1 s.2.2.2.2.2.2.2.1 s.2.2.2.2.2.2.2.2)
  (λ(o:List AO×Device) i=>(o.1,i,o.2.Flash.Blocks,o.2.Store.Vols,o.2.Store.Arena.Knots,o.2.Store.Next,o.2.Seq,o.2.Tx,o.2.Base)) 20
  (λi o=>o.1.length<=200*i/\∃r',JN i d r o.2 r'/\Steps d.Flash o.1 o.2.Flash/\L7 i d r o.1)
  (λb=>∃d' all r',(b= .inr (d',all)\/b= .inl (all,d'.Flash.Blocks,d'.Store.Vols,d'.Store.Arena.Knots,d'.Store.Next,d'.Seq,d'.Tx,d'.Base))/\JN 20 d r d' r'/\all.length<=4000/\Steps d.Flash all d'.Flash/\L7 20 d r all)
  (λo i hi hs=>by
   obtain⟨all,e⟩:=o;obtain⟨j,r',hg,c,f⟩:=hs;simp only at j hg c f;have m:Device.mk (Flash.mk e.Flash.Blocks) (Store.mk e.Store.Vols (Arena.mk e.Store.Arena.Knots) e.Store.Next) e.Seq e.Tx e.Base=e:=rfl;have p:Flash.mk e.Flash.Blocks=e.Flash:=rfl;simp only[E9];rw[m,p];obtain⟨v,v1⟩:=Qq hg.good.dev.fl;rw[v1,Ac (by omega:(i:Int)<20)];simp only[Ai,Aa,JH]
   cases(bif decide ((i:Int)<most)then decide (v<12)else false)with
   |false=>
    exact .inr ⟨_,rfl,e,all,r',.inr rfl,hg.mono (by omega),by omega,c,l (by omega) f⟩
   |true=>
    obtain⟨steps,ok,c1,c2,_,c3⟩:=dY hg.good (λx hx=>by have:=hg.wear _ hw x hx;omega);rw[c1];simp only[Aa]
    cases ok with
    |false=>
     exact .inr ⟨_,rfl,e,all,r',.inl rfl,hg.mono (by omega),by omega,c,l (by omega) f⟩
    |true=>
     obtain⟨d',r2,k1,k2,k3⟩:=(c3 rfl).full hg.good (by omega);rw[k1,Aa,Bk (by omega),ad1]
     exact .inl ⟨(all++steps,d'),rfl,by simp;omega,r2,hg.trans k3,(HT _ _ _ _).2 ⟨_,c,k2⟩,AAA hg c f<|c3 rfl⟩)
  (λo hs=>by
   obtain⟨all,e⟩:=o;obtain⟨j,r',hg,c,f⟩:=hs;refine⟨.inl (all,e.Flash.Blocks,e.Store.Vols,e.Store.Arena.Knots,e.Store.Next,e.Seq,e.Tx,e.Base),?_,e,all,r',.inr rfl,hg,by simpa using j,c,f⟩;simp only[E9]
   grind) (s:=([],d)) ⟨by simp,r,JN.refl h,rfl,⟨⟨_,rfl⟩,λk g hk hg=>by
   obtain⟨q,q1,q2⟩:=hg;rw[List.take_nil]at q1;rw[show q=d.Flash from q1]at q2
   rcases q2 with rfl|⟨s,s1,_⟩
   ·obtain⟨x,u1,u2,u3⟩:=(JN.refl (n:=0) h).torn h.dev.fl rfl λ_ hh=>hh
    grind
   simp at s1⟩⟩
 rw[h1]
 rcases h2 with rfl|rfl
 ·grind
 exact⟨d',all,r',rfl,h3,h4,h5,h6⟩
theorem ABf {r:Int} (h:k<16):(ED K r)[k]?=some (RR K r k):=by unfold ED;exact HM h
theorem pJ (h:C3 s) (vol:Int) (hk:k<16):∃c,LS s vol (k:Int)=some c/\((HH (AL s) vol=none/\c=0)\/∃a,HH (AL s) vol=some a/\a[k]?=some c/\0<=c/\(c≠0->DJ (AL s) c)):=by
 have hl:=h.len;unfold LS
 rcases DU s (by omega) vol with⟨e,e2⟩|⟨i,v,e,e2,e3,_⟩
 ·rw[e];exact⟨0,rfl,.inl ⟨Jp.1 e2,rfl⟩⟩
 rw[e];simp only[Aa];have hm:=Ar e2;have hr:=h.root _<|A5.2 ⟨v,hm,rfl⟩;rw[cF,Au,e2,Aa,aK _ (by have:=h.few;omega) h.ar hr hk];have hg:=Mb h.asc hm;rw[e3]at hg;have h0:=rL h.ar hr _<|dA hk;exact⟨_,rfl,.inr ⟨_,hg,ABf hk,h0,λb=>⟨by omega,_,A5.2 ⟨v,hm,rfl⟩,dA hk⟩⟩⟩
theorem Yc (h:JO d r) (vol:Int) (hk:k<16):(HH (AL d.Store) vol=none/\Fu r d.Store vol (k:Int)=some (bs [],false))\/
  ∃a c,HH (AL d.Store) vol=some a/\a[k]?=some c/\LS d.Store vol (k:Int)=some c/\((c=0/\Fu r d.Store vol (k:Int)=some (bs [],true))\/(0<c/\DJ (AL d.Store) c/\∃u,Cb r c=some u/\Fu r d.Store vol (k:Int)=some (u,true))):=by
 have hl:=h.dev.st.len;obtain⟨c,c1,c2⟩:=pJ h.dev.st vol hk;unfold Fu;rw[c1]
 rcases DU d.Store (by omega) vol with⟨e,e2⟩|⟨i,v,e,e2,e3,_⟩
 ·rw[e];exact .inl ⟨Jp.1 e2,rfl⟩
 have hg:=Mb h.dev.st.asc<|Ar e2;rw[e3]at hg
 rcases c2 with⟨c2,_⟩|⟨a,c2,c3,c4,c5⟩
 ·grind
 rw[e];simp only[Aa];rw[cF];right;by_cases e0:c=0
 ·grind
 rw[show(c==0)=false by simpa using e0];have b:=c5 e0;obtain⟨u,hu⟩:=h.data.data c b;obtain⟨w,ok,t1,t2⟩:=o8 h.dev.pages c
 grind
theorem dS (h:Hc d r) {a:List Cx} {b:ByteArray} (hp:EI d q=some (a,b,0)):AD7 q:=by
 obtain⟨v,a1,a2⟩:=PO q
 cases v with
 |true=>exact a2 rfl
 |false=>
  unfold EI at hp
  grind
def sK (r r':List Ap) (c:Int) (a:ByteArray):Prop:=(∀y∈r',y.Page.Kind=1->(∃z∈r,z.Page.Kind=1/\z.Page.Tx=y.Page.Tx/\z.Page.Text=y.Page.Text)\/(L a≠ []/\y.Page.Tx=c/\y.Page.Text=a))/\Ex r'<=Ex r+1/\Dm r'<=Dm r+10
theorem ACS {x:Cx} (h:JO d r) {a:ByteArray} (hx:pP d r q x a):Dp d [x] a=some ([],false)\/∃steps d' r',Dp d [x] a=some (steps,true)/\steps.length<=10/\Hu d steps=some d'/\JO d' r'/\
  (AL d'.Store,d'.Store.Next)=(Dd (AL d.Store) d.Store.Next x).getD (AL d.Store,d.Store.Next)/\d.Store.Next<=d'.Store.Next/\d'.Store.Next<=d.Store.Next+1/\sK r r' x.Chunk a/\ZF d.Flash d'.Flash/\Steps d.Flash steps d'.Flash/\((∀c,DJ (AL d.Store) c->Cb r' c=Cb r c)/\(L a≠ []->Cb r' x.Chunk=WW a))/\1<=steps.length/\∀k g,k<steps.length->Y5 d.Flash steps k g->∃y ry,C7 g=some (y,true)/\y.Flash=g/\As d r y ry/\sK r ry x.Chunk a:=by
 obtain⟨x1,x2,xv,x3⟩:=hx;have h7:=h.dev.st.nx
 have i:∀z∈ [x],G9 z=true:=λz hz=>by grind
 rcases RE h.dev.fl h.dev.seqs [x] (by simp) (by simp) i a with w|⟨steps,T,g,b,w1,w2,w3,w4,w5,w6,w7,w8,w9⟩
 ·exact .inl w
 right;have j:b=x:=by simpa using w1.symm
 subst j;have o:=(Fq w7).2;have h2:(Cs (Io d a) d.Tx T).length=T.length:=by unfold Cs;grind
 have h8:(CN d b.Chunk a).length<=1:=by unfold CN;split<;>simp
 rw[Ak,h2]at o
 have t:L a≠ []->¬DJ (AL d.Store) b.Chunk:=λht h3=>by
  rcases x3 with⟨x3,_⟩|⟨_,x4,_⟩
  ·exact ht x3
  have:=Zq h.dev.st h3;omega
 have tk:∀k c,DJ (AL d.Store) c->Cb (r++(Cn steps<|CN d b.Chunk a++Cs (Io d a) d.Tx T).take k) c=Cb r c:=λk c hc=>by
  unfold Cb;rw[bB _ _ _ λz hz hh=>?_];have h4:=MO _ _ _ z hz
  rcases Ao.1 h4 with hh2|hh2
  ·unfold CN at hh2
   grind
  have:=Pi hh2;omega
 have tn:L a≠ []->Cb (r++(Cn steps<|CN d b.Chunk a++Cs (Io d a) d.Tx T).take steps.length) b.Chunk=WW a:=λe=>by
  rw[AK (by unfold Cn;grind),show CN d b.Chunk a=[Page.mk 1 d.Seq b.Chunk 0 1 a] by unfold CN;rw[AM e]]
  cases steps with
  |nil=>grind
  |cons s ss=>
   show Cb (r++Ap.mk s.Block s.Leaf (Page.mk 1 d.Seq b.Chunk 0 1 a)::Cn ss (Cs (Io d a) d.Tx T)) b.Chunk=_;unfold Cb;rw[List.append_cons,iN _ _ (λy hy=>by have:=Pi (MO ss _ _ y (by rw[Dr];exact hy));omega),MQ,AH ⟨rfl,rfl⟩];rfl
 have fw:∀k,sK r (r++(Cn steps<|CN d b.Chunk a++Cs (Io d a) d.Tx T).take k) b.Chunk a:=λk=>by
  have cP:∀y∈r++(Cn steps<|CN d b.Chunk a++Cs (Io d a) d.Tx T).take k,y∈r\/y.Page∈CN d b.Chunk a++Cs (Io d a) d.Tx T:=λy hy=>(Ao.1 hy).imp id<|MO _ _ _ y
  refine⟨λy hy hk=>?_,j9 (n:=1) λy hy hk=>?_,kJ (n:=10) λy hy=>?_⟩
  ·rcases cP y hy with hh|hh
   ·grind
   rcases Ao.1 hh with hh|hh
   ·unfold CN at hh;by_cases e:L a=[]
    ·grind
    grind
   have:=Pi hh;omega
  ·rcases cP y hy with hh|hh
   ·exact Zf _ hh hk
   rcases Ao.1 hh with hh|hh
   ·unfold CN at hh
    grind
   rw[iI hh,h.dev.tx];omega
  rcases cP y hy with hh|hh
  ·exact Zh _ hh
  have:=gA hh;rw[h.dev.seq]at this;omega
 have cut:∀k g,k<steps.length->Y5 d.Flash steps k g->∃y ry,C7 g=some (y,true)/\y.Flash=g/\As d r y ry/\sK r ry b.Chunk a:=λk g hk hg=>by
  obtain⟨m,y,ry,c1,c2,c3,c4,c5,hr',cw,c6,c7,c8,_⟩:=WV h i w3 w4 w5 w6 w7 w9 t k (by omega);obtain⟨e1,e2,_⟩:=Ip h.dev c4 (by rw[c8 hk]);subst hr';have h5:As d r y (r++(Cn steps<|CN d b.Chunk a++Cs (Io d a) d.Tx T).take k):=⟨⟨c4,c6,by rw[e1];exact c7⟩,e1,e2,(fw k).2.1,by rw[c5];exact Zc (n:=1) cw,tk k⟩;obtain⟨q,q1,q2⟩:=hg;have:=Qp q1 c1;subst this
  rcases q2 with rfl|⟨s,s1,_,s2,s3,⟨_,s4⟩|⟨s4,_⟩⟩
  ·grind
  ·obtain⟨z,z1,z2,z3⟩:=h5.torn s2 (by rw[c5];exact s4) (by rw[c5];exact s3)
   grind
  have:=RG w7 s<|Ar s1;omega
 obtain⟨m,d',r',c1,c2,c3,c4,c5,hr',cw,c6,c7,_,c9⟩:=WV h i w3 w4 w5 w6 w7 w9 t steps.length<|Az _;rw[<-c5]at cw;rw[Dr]at c1;have u:Steps d.Flash steps d'.Flash:=by rw[c5];exact c1
 have v:sK r r' b.Chunk a:=by rw[hr'];exact fw _
 have tt:(∀c,DJ (AL d.Store) c->Cb r' c=Cb r c)/\(L a≠ []->Cb r' b.Chunk=WW a):=by grind
 obtain⟨⟨qn,hq⟩,c10⟩:=c9 rfl;have hB:¬fB (Tx.mk d.Tx qn [b])=true:=by
  unfold fB;simpa using x2
 have f:=c4.ab;rw[hq,Tw,AM hB,bF,<-h.dev.ab]at f;have h6:CU (AL d.Store) d.Store.Next [b]=Dd (AL d.Store) d.Store.Next b:=by rfl
 simp only[h6]at f;have h0:=QA h.dev c1 (by omega) c3
 cases l:Dd (AL d.Store) d.Store.Next b with
 |none=>
  rw[l]at f;have e1:AL d'.Store=AL d.Store:=BK Prod.fst f;have e2:d'.Store.Next=d.Store.Next:=BK Prod.snd f;exact⟨steps,d',r',w2,by omega,h0,⟨c4,c6,by rw[e1];exact c7⟩,by rw[e1,e2];rfl,by omega,by omega,v,cw,u,tt,by omega,cut⟩
 |some p=>
  obtain⟨l',nx'⟩:=p;rw[l]at f;have e1:AL d'.Store=l':=BK Prod.fst f;have e2:d'.Store.Next=nx':=BK Prod.snd f;obtain⟨v1,v2,v3⟩:=Y3 l x2
  have hz:∀c,DJ l' c->c=b.Chunk->b.Kind≠4->False:=λc hc h9 hk=>by
   have:b.Chunk=0:=by
    have hb:=x1;unfold G9 at hb
    grind
   have:=hc.1;omega
  have h1:b.Chunk<=d.Store.Next:=by
   by_cases hk:b.Kind=4
   ·rcases x3 with⟨_,x4⟩|⟨_,x4,_⟩
    ·have:=Zq h.dev.st (x4 hk).1;omega
    omega
   have hb:=x1;unfold G9 at hb
   grind
  refine⟨steps,d',r',w2,by omega,h0,⟨c4,c6,?_⟩,by rw[e1,e2];rfl,by omega,by omega,v,cw,u,tt,by omega,cut⟩;rw[e1]
  rcases x3 with⟨x3,x4⟩|⟨x3,x4,x5,x6,x7⟩
  ·refine c7.mono λc hc=>?_
   grind
  exact(c10 _ x6 x5 x7).mono v1
def ACJ (d d':Device) (v:Int):Prop:=∀p∈AL d'.Store,(∃p'∈AL d.Store,p'.1=p.1)\/p.1=v
theorem qG {d':Device} (h:AL d'.Store=AL d.Store) (v:Int):ACJ d d' v:=λp hp=> .inl ⟨p,by rw[<-h];exact hp,rfl⟩
structure Mm (c:BQ):Prop where
 i0:0<=c.i_
 i1:c.i_<=(c.b_.length:Int)
 len:c.b_.length<=1048576
theorem ACw (a:Int):0<=ban .i64 a 255/\ban .i64 a 255<=255:=by
 unfold ban;have h:(BitVec.ofInt IntKind.i64.bits a&&&BitVec.ofInt IntKind.i64.bits 255).toNat<=255:=by
  refine JJ Nat.and_le_right ?_;exact Nat.le_of_eq rfl
 rw[OH (by omega)<|by omega];omega
theorem d7 (h:Mm c):∃v c',Kq c=some (v,c')/\Mm c'/\0<=v/\v<=255:=by
 have:=h.i0;have:=h.i1;have:=h.len;unfold Kq;by_cases e:c.i_<ln c.b_
 ·rw[Ac e,Ai,Lm h.i0 (by rw[Bj]at e;exact e)];rw[Bj]at e;rw[Aa,Cw (a:=c.i_) (by omega)<|by omega];exact⟨_,_,rfl,⟨by grind,by grind,h.len⟩,ACw _⟩
 rw[Af e,Ad];exact⟨_,_,rfl,⟨h.i0,h.i1,h.len⟩,ACw _⟩
theorem AFD {a n:Int} (h0:0<=a) (hn:0<n):∃v,rm .i64 a n=some v/\0<=v/\v<n:=by
 unfold rm;rw[AM (by omega),Int.tmod_eq_emod_of_nonneg h0];exact⟨_,rfl,Int.emod_nonneg _ (by omega),Int.emod_lt_of_pos _ hn⟩
theorem Un (h:Mm c) (n:Int):∃v c',DV c n=some (v,c')/\Mm c'/\0<=v/\(0<n->v<n):=by
 unfold DV;by_cases h0:n<=0
 ·rw[Ac h0]
  grind
 by_cases h1:n<=256
 ·obtain⟨v,c',k1,k2,k3,k4⟩:=d7 h;rw[k1];obtain⟨w,w1,w2,w3⟩:=AFD (n:=n) k3 (by omega)
  grind
 rw[Af h1,Ad];obtain⟨v1,c1,a1,a2,a3,a4⟩:=d7 h;obtain⟨v2,c2,b1,b2,b3,b4⟩:=d7 a2;obtain⟨v3,c3,d1,d2,d3,d4⟩:=d7 b2;obtain⟨v4,c4,e1,e2,e3,e4⟩:=d7 d2;rw[a1,Aa,b1,Aa,d1,Aa,e1,Aa,PV (by omega) (by omega),PV (by omega) (by omega),PV (by omega) (by omega),Cw (a:=v1*16777216) (b:=v2*65536) (by omega) (by omega),Cw (a:=v1*16777216+v2*65536) (b:=v3*256) (by omega) (by omega),Cw (a:=v1*16777216+v2*65536+v3*256) (b:=v4) (by omega)<|by omega];obtain⟨w,w1,w2,w3⟩:=AFD (a:=v1*16777216+v2*65536+v3*256+v4) (n:=n) (by omega)<|by omega
 grind
theorem Ul (h:Mm c) (hn:0<n):∃(v:Nat) (c':BQ),DV c (n:Int)=some ((v:Int),c')/\Mm c'/\v<n:=by
 obtain⟨v,c',k1,k2,k3,k4⟩:=Un h (n:Int);exact⟨v.toNat,c',by grind,k2,by omega⟩
theorem jU (h:Mm c) (hl:0<l.length):∃v c',Ja c l=some (v,c')/\Mm c'/\v∈l:=by
 unfold Ja;obtain⟨v,c',k1,k2,k3⟩:=Ul h hl;rw[Bj,k1,Aa,Au,Ab k3]
 grind
theorem AFg {l:List ByteArray} (h:Mm c) (hl:0<l.length):∃v c',PM c l=some (v,c')/\Mm c'/\v∈l:=by
 unfold PM;obtain⟨v,c',k1,k2,k3⟩:=Ul h hl;rw[Bj,k1,Aa,Au,Ab k3];exact⟨_,_,rfl,k2,Aw k3⟩
theorem nX (h:Mm c) (n:Int):∃v c',GQ c n=some (v,c')/\Mm c':=by
 unfold GQ;obtain⟨v,c',k1,k2,_⟩:=Un h n;rw[k1];exact⟨_,_,rfl,k2⟩
theorem R8 (h:Mm c):Mm (BQ.mk c.b_ c.i_ c.h_):=h
theorem AGa {code:List Int} (h:code.length<=1048576):∃c,VX code=some c/\Mm c:=by
 unfold VX;obtain⟨b,h1,_⟩:=AG (body:=λs:Int×Int=>MB code s.1 s.2) (λ(o:Int) i=>(o,i)) code.length (λ_ _=>True) (λ_=>True)
  (λo i hi _=>by
   have hx:=Ab hi;simp only[MB,I9,Ac hi,Ai,Aa,Au,hx];rw[ad1 (i:=i)<|by omega]
   cases decide ((i:Int)<4000)with
   |true=>grind
   |false=>grind)
  (λo _=>⟨o,by simp only[MB,I9,EP,HX,Ad,Aa],trivial⟩) (s:=ad 36501<|ln code) trivial
 rw[h1];exact⟨_,rfl,⟨Ju _,by grind,h⟩⟩
def ten:List ByteArray:=[bs [],bs [97],bs [98,98],bs [97,98,99,100,97,98,99,100,97,98,99,100],bs [104,101,108,108,111],bs [104,101,108,108,111,32,104,101,108,108,111,32,104,101,108,108,111],bs [122,122,122,122,122,122,122,122,122,122,122,122],bs [113,49],bs [113,50],bs [113,51]]
theorem AFa (h:Mm c):∃v c',T1 c=some (v,c')/\Mm c'/\v∈ten:=by
 unfold T1;obtain⟨v,c',k1,k2,k3⟩:=AFg h (l:=ten) (by simp[ten]);have e:PM c ten=some (v,c'):=k1;unfold ten at e
 grind
structure ACL (q:Ask):Prop where
 kind:1<=q.Kind/\q.Kind<=6
 vol:1<=q.Vol/\q.Vol<=3
 rest:(q.Kind=1/\q.Text∈ten/\(0<=q.Sector/\q.Sector<=15)/\q.Of=0)\/(q.Kind≠1/\L q.Text=[]/\(((q.Kind=2\/q.Kind=6)/\(0<=q.Sector/\q.Sector<=15)/\q.Of=0)\/(q.Sector=0/\((q.Kind=4/\1<=q.Of/\q.Of<=9)\/((q.Kind=3\/q.Kind=5)/\q.Of=0)))))
theorem AFi (h:Mm c) (d:Device) (hv:d.Store.Vols.length<=3) (o:∀v∈d.Store.Vols,1<=v.Id/\v.Id<=3):∃q c',T3 c d=some (q,c')/\Mm c'/\ACL q:=by
  unfold T3;obtain⟨k,c1,a1,a2,a3⟩:=jU h (l:=[1,1,1,1,1,1,2,3,4,5,6]) (by simp);rw[a1];simp only[Aa];obtain⟨v2,c2,b1,b2,b3,b4⟩:=Un a2 3;have g:1<=k/\k<=6:=by simp at a3;omega
  have r:ad 1 v2=1+v2:=Cw (by omega) (by omega);rw[b1];simp only[Aa]
  have J1:∃x y c3,(cond ((ln d.Store.Vols)==0) (some (3,ad 1 v2,c2.b_,c2.i_,c2.h_)) ((cond (k !=3) (cond (k !=4) ((GQ c2 8).bind λv3=>
 some (!v3.1,v3.2.b_,v3.2.i_,v3.2.h_))<|some (false,c2.b_,c2.i_,c2.h_)) (some (false,c2.b_,c2.i_,c2.h_)):Option (Bool×List Int×Int×Int)).bind λj2=>
 cond j2.1 ((DV (BQ.mk j2.2.1 j2.2.2.1 j2.2.2.2)<|ln d.Store.Vols).bind λv4=>
 (gi d.Store.Vols v4.1).bind λx1=>
 some (k,x1.Id,v4.2.b_,v4.2.i_,v4.2.h_)) (some (k,ad 1 v2,j2.2.1,j2.2.2.1,j2.2.2.2))):Option (Int×Int×List Int×Int×Int))=some (x,y,BQ.b_ c3,c3.i_,c3.h_)/\Mm c3/\(1<=x/\x<=6)/\1<=y/\y<=3:=by
   cases hz:(ln d.Store.Vols==0)with
   |true=>exact⟨_,_,c2,rfl,b2,by omega,by omega,by omega⟩
   |false=>
    have j:0<d.Store.Vols.length:=by
     rw[beq_eq_false_iff_ne,Bj]at hz;omega
    have J2:∃b c3,(cond (k !=3) (cond (k !=4) ((GQ c2 8).bind λv3=>some (!v3.1,v3.2.b_,v3.2.i_,v3.2.h_))<|some (false,c2.b_,c2.i_,c2.h_)) (some (false,c2.b_,c2.i_,c2.h_)):Option (Bool×List Int×Int×Int))=some (b,BQ.b_ c3,c3.i_,c3.h_)/\Mm c3:=by
     cases(k !=3)with
     |false=>grind
     |true=>
      cases(k !=4)with
      |false=>grind
      |true=>
       obtain⟨v3,c3,d1,d2⟩:=nX b2 8;rw[d1];exact⟨_,c3,rfl,d2⟩
    obtain⟨b,c3,e1,e2⟩:=J2;rw[e1];simp only[Aa]
    cases b with
    |false=>exact⟨_,_,c3,rfl,e2,g,by omega,by omega⟩
    |true=>
     obtain⟨v4,c4,f1,f2,f3⟩:=Ul (R8 e2) j;rw[Bj,f1,Aa,Au,Ab f3];exact⟨_,_,c4,rfl,f2,g,o _<|Aw f3⟩
  obtain⟨x,y,c3,j1,j1c,jx,jy⟩:=J1;rw[j1];simp only[Aa];have J3:∃b c4,(cond (x==5) ((GQ (BQ.mk c3.b_ c3.i_ c3.h_) 3).bind λv8=>some (!v8.1,v8.2.b_,v8.2.i_,v8.2.h_)) (some (false,c3.b_,c3.i_,c3.h_)):Option (Bool×List Int×Int×Int))=some (b,BQ.b_ c4,c4.i_,c4.h_)/\Mm c4:=by
   cases(x==5)with
   |false=>grind
   |true=>
    obtain⟨v8,c4,d1,d2⟩:=nX (R8 j1c) 3;rw[d1];exact⟨_,c4,rfl,d2⟩
  obtain⟨b,c4,j3,j3c⟩:=J3;rw[j3];simp only[Aa,JH];have a:1<=(bif b then(1:Int)else x)/\(bif b then(1:Int)else x)<=6:=by grind
  generalize (bif b then(1:Int)else x)=j4 at a
  cases m:(j4==1)with
  |true=>
   obtain⟨t,c5,t1,t2,t3⟩:=AFa<|R8 j3c;rw[t1];simp only[Aa];obtain⟨v10,c6,u1,u2,u3,u4⟩:=Un t2 16;rw[u1];have hj:=CG.1 m;exact⟨_,_,rfl,u2,⟨a,jy,.inl ⟨hj,t3,by grind,rfl⟩⟩⟩
  |false=>
   have e:j4≠1:=by simpa using m
   have p:(cond (j4==2) (j4==2)<|j4==6)=decide (j4=2\/j4=6):=by grind
   rw[p];by_cases f:j4=2\/j4=6
   ·rw[Ac f];obtain⟨v11,c6,u1,u2,u3,u4⟩:=Un (R8 j3c) 16;rw[u1];exact⟨_,_,rfl,u2,⟨a,jy,.inr ⟨e,Em _,.inl ⟨f,by grind,rfl⟩⟩⟩⟩
   rw[Af f]
   cases n:(j4==4)with
   |true=>
    obtain⟨v12,c6,u1,u2,u3,u4⟩:=Un (R8 j3c) 3;have h44:=CG.1 n;rw[u1]
    cases s:d.Store.Vols with
    |nil=>
     exact⟨_,_,rfl,u2,⟨a,jy,.inr ⟨e,Em _,.inr ⟨rfl,.inl ⟨h44,by show 1<=ad 1 v12/\ad 1 v12<=9;rw[Cw];omega⟩⟩⟩⟩⟩
    |cons v vs=>
     rw[Ac (by rw[Bj,AA];omega:ln (v::vs)>0),show gi (v::vs) 0=some v from Au (i:=0)];exact⟨_,_,rfl,u2,⟨a,jy,.inr ⟨e,Em _,.inr ⟨rfl,.inl ⟨h44,by grind⟩⟩⟩⟩⟩
   |false=>
    exact⟨_,_,rfl,R8 j3c,⟨a,jy,.inr ⟨e,Em _,.inr ⟨rfl,.inr ⟨by grind,rfl⟩⟩⟩⟩⟩
theorem rQ (h:3<=n/\n<=10):Bu (Flash.mk (List.replicate n (Block.mk false 0 IQ))):=by
 refine⟨by simpa using h,λb hb=>?_⟩;rw[Dt hb];exact rU ⟨by omega,by omega⟩
theorem We (h:3<=n/\n<=10):LP (n:Int)=some (Flash.mk (List.replicate n (Block.mk false 0 IQ)),true):=by
 unfold LP;rw[Dk,Ac<|by omega];simp only[Aa,An,Ad];have q:=uC (body:=λs:Int×List Block=>G8 (n:Int) s.1 s.2) n (λ_=>Block.mk false 0 IQ)
  (λi a hi ho=>by
   simp only[G8]
   rw[cT,TC,Aa,Bk (by simp;omega),Aa,ad1])
  (λa=>by simp only[G8];rw[cF])
 rw[q,Aa,Nu,DR]
theorem iG:∀(n:Nat) (i:Int),KR i (List.replicate n (Block.mk false 0 IQ))=[]
 |0,i=>rfl
 |n+1,i=>by
  rw[Sd,KR,iG n (i+1),Wr i 0 _ (λy hy=>by rw[Dt hy];simp)];rfl
theorem YM (h:3<=n/\n<=10):∃d,I3 (n:Int)=some (d,true)/\JO d []/\AL d.Store=[]/\d.Store.Next=1/\d.Flash=Flash.mk (List.replicate n (Block.mk false 0 IQ)):=by
 have hP:=rQ h;have b:SR (KR 0 (Flash.mk<|List.replicate n<|Block.mk false 0 IQ).Blocks) []:=by
  rw[iG];exact⟨List.Pairwise.nil,λ_=>rfl⟩
 obtain⟨d,u1,u2,u3⟩:=Ng hP b;have a:=u2.ab;have:O2 (CO<|Be [])=([],1):=rfl;rw[this]at a
 injection a with e1 e2
 refine⟨d,?_,⟨u2,⟨⟨by simp,by simp,by simp,by simp,by simp,by simp⟩,List.Pairwise.nil,⟨λy hy=>by cases hy⟩⟩,?_⟩,e1,e2,u3⟩
 ·unfold I3;rw[We h]
  grind
 rw[e1];refine⟨λc hc=>?_,λc c' hc=>?_⟩
 ·obtain⟨_,p,hp,_⟩:=hc;cases hp
 obtain⟨_,p,hp,_⟩:=hc;cases hp
theorem ACL.text (h:ACL q):q.Text∈ten:=by
 rcases h.rest with⟨_,h2,_⟩|⟨_,h2,_⟩
 ·exact h2
 rw[show q.Text=bs []from JM (by rw[h2,Em])];simp[ten]
def UT (a:List Shelf):Prop:=a.length<=1048576/\∀x∈a,x.Texts.length<=1048576
theorem jT (d:Device) (h:fW d.Flash r) (hs:JW d.Store<=1048576) (id:Int) (k:Nat) (hk:k<16):∃u ok,Fu r d.Store id (k:Int)=some (u,ok)/\Qe d id (k:Int)=some (u,ok):=by
 unfold JW Z7 at hs;have hl:=Se (z:=V6) (l:=d.Store.Arena.Knots);have ha:RB d.Store.Arena:=by unfold RB;omega
 unfold Fu Qe;obtain⟨v,h1,h2,h3⟩:=V8 d.Store id (by omega);rw[h1,h2];simp only[Aa]
 cases decide (v<0)with
 |true=>grind
 |false=>
  obtain⟨c,c1,c2⟩:=vV d.Store (by omega) ha id k hk;rw[c1,c2];simp only[Aa]
  cases c==0 with
  |true=>grind
  |false=>
   obtain⟨u,ok,t1,t2⟩:=WQ h c
   grind
theorem XL (d:Device) (hz:Nw d<=1048576):∃m,EV d=some m/\HE d=some m:=by
 unfold Nw at hz;obtain⟨r,hr⟩:=nT d.Flash (by omega);have hs:JW d.Store<=1048576:=by omega
 have hv:d.Store.Vols.length<=1048576:=by unfold JW at hs;omega
 unfold EV HE;rw[hr.s];obtain⟨m,h1,h2,_⟩:=MR (body:=λs:List Shelf×Int=>Di d r s.1 s.2) (body':=λs:List Shelf×Int=>FC d s.1 s.2) (λ(o:List Shelf) i=>(o,i)) (λ(o:List Shelf) i=>(o,i)) d.Store.Vols.length (λi o=>o.length=i) (λ_=>True)
  (λo i hi ho=>by
   have hg:d.Store.Vols[i]?=some d.Store.Vols[i]:=Ab hi;simp only[Di,FC,I9,Ac hi,Ai,Au,hg,Aa];obtain⟨l,q1,q2,q3⟩:=MR (body:=λs:Int×List ByteArray=>Eu d r d.Store.Vols[i] s.1 s.2) (body':=λs:Int×List ByteArray=>H4 d d.Store.Vols[i] s.1 s.2) (λ(o:List ByteArray) k=>(k,o)) (λ(o:List ByteArray) k=>(k,o)) 16 (λk o=>o.length=k) (λ_=>True)
    (λu k hk hu=>by
     obtain⟨t,ok,g1,g2⟩:=jT d hr hs d.Store.Vols[i].Id k hk;simp only[Eu,H4];rw[Ac (by omega:(k:Int)<16),Ai,Ai,g1,g2,Aa,Bk (by grind),ad1]
     exact .inl ⟨_,rfl,rfl,by grind⟩)
    (λu hu=>⟨u,by rfl,by rfl,trivial⟩) (s:=[]) rfl
   rw[q1,q2,Aa,Bk (by grind),ad1]
   grind)
  (λo ho=>⟨o,by simp only[Di,I9,EP,HX,Ad],by simp only[FC,I9,EP,HX,Ad],trivial⟩) (s:=[]) rfl
 grind
theorem AAI (h:C3 s):JW s<=1048576:=by
 have h1:=h.len;have h2:=h.small;have a:∀l:List Bq,(∀k∈l,k.Kids.length=4)->(l.map V6).sum=4*l.length:=by
  intro l
  induction l with
  |nil=>intro _;rfl
  |cons k l ih=>
   intro hl;rw[Cr,FE,ih (λx hx=>hl x<|by simp[hx]),AA];have:=hl k (by simp);unfold V6;omega
 have:=a s.Arena.Knots (λk hk=>by
  obtain⟨i,hi,rfl⟩:=A4 hk;have:=(GD.1 h.ar i hi).1;rw[O4 hi]at this
  exact this)
 unfold JW Z7 zl;omega
theorem uH (h:JO d r) (vol:Int) (hk:k<16):Qe d vol (k:Int)=Fu r d.Store vol (k:Int):=by
 obtain⟨u,ok,h1,h2⟩:=jT d h.dev.scan (AAI h.dev.st) vol k hk;rw[h1,h2]
theorem ACZ:∀t∈ten,(L t).length<=64:=by
 intro t ht;unfold ten at ht;simp only[DL,List.not_mem_nil,or_false]at ht
 rcases ht with rfl|rfl|rfl|rfl|rfl|rfl|rfl|rfl|rfl|rfl<;>rw[Em]<;>decide
theorem AD8 (h:ACL q):Hw q=some true:=by
 obtain⟨h1,h2,h3⟩:=h;have hl:(L q.Text).length<=64:=ACZ _<|ACL.text ⟨h1,h2,h3⟩;unfold Hw;rw[Dk,Dk,B4,Ac h1,Ac (by omega:1<=q.Vol/\q.Vol<=9),Af (by omega:¬((L q.Text).length:Int)>64)]
 rcases h3 with⟨k1,_,k3,k4⟩|⟨k1,k2,k3⟩
 ·rw[k1,k4];simp only[show((1:Int) !=1)=false from rfl,Ad,Aa,show((1:Int)==4)=false from rfl,show((0:Int) !=0)=false from rfl,show((1:Int)==3)=false from rfl,show((1:Int)==5)=false from rfl];rw[Dk,Ac k3];rfl
 have a:seq q.Text (bs [])=true:=by rw[JZ,A6];exact JM<|by rw[k2,Em]
 rw[show(q.Kind !=1)=true by simpa using k1,a]
 rcases k3 with⟨e|e,k4,k5⟩|⟨k4,⟨e,k5⟩|⟨e|e,k5⟩⟩
 ·have hs:BA q.Sector 0 15=some true:=by rw[Dk,Ac k4]
  rw[e,k5,hs];rfl
 ·have hs:BA q.Sector 0 15=some true:=by rw[Dk,Ac k4]
  rw[e,k5,hs];rfl
 ·have hs:BA q.Of 1 9=some true:=by rw[Dk,Ac k5]
  rw[e,k4,hs];rfl
 ·rw[e,k4,k5];rfl
 rw[e,k4,k5];rfl
theorem b9 (h:C3 s) {live:List Int} (hl:F7 s=some live):Lj s=some live:=by
 obtain⟨l,e1,e2,_,_⟩:=XM s (by have:=h.len;omega)<|nI h
 grind
theorem sG (h:Hc d r) {live:List Int} (hl:F7 d.Store=some live) (l2:asc live) (l4:live.length<=16777216) (a b:Int):aI d.Flash d.Store a b=some ((cn r.length (λj=>(C8 r live a)[j]?.getD false&&bk r b j):Nat):Int)/\H3 d.Flash d.Store a b=some ((cn r.length (λj=>(C8 r live a)[j]?.getD false&&bk r b j):Nat):Int):=by
 obtain⟨n,n1,n2⟩:=YK h.scan d.Store (b9 h.st hl) l2 l4 a b;have c:=aX r (C8 r live a) b h.scan.len<|Kx _ _ _;have e:C8 r live a=live.foldl (e9 r) (r.map<|DC a):=rfl;rw[e]at c;rw[n1]at c;unfold aI;rw[h.scan.s,hl];simp only[Aa];rw[N9 r live _ h.scan.len l4]
 grind
theorem ADJ (h:Hc d r) (hy:y∈r):J7 y.Page:=by
 obtain⟨b,x,g1,g2,_,g3⟩:=h.scan.page y hy;obtain⟨_,k1⟩:=Cg g1;obtain⟨_,k2⟩:=Cg g2;have hx:=h.fl.text b (Ar k1) x<|Ar k2;obtain⟨p,ok,m1,_,_,m2⟩:=IU x.Text (by omega);rw[g3]at m1
 injection m1 with m1
 obtain⟨v,q1,q2⟩:=UY p
 grind
theorem AGn (hc:Kh g) (ss:List AO) (hs:ss.length<=1000) (p:Page) (b:Int):
  (∃s g',DN g ss p=some (g',ss++ [s],true)/\Kh g'/\CP (Gj.mk g ss) p b=some (if(s.Block==b)=true then(false,Gj.mk g ss)else(true,Gj.mk g' (ss++ [s]))))\/
  (∃g' st,DN g ss p=some (g',st,false)/\∃w,CP (Gj.mk g ss) p b=some (false,w)):=by
 obtain⟨t,ok,t1,t2⟩:=YH p;obtain⟨bb,l,room,p1,p2,p3⟩:=dT g hc;unfold DN CP;rw[t1,t2,p1,p2]
 cases ok with
 |false=>simp
 |true=>
  cases room with
  |false=>simp
  |true=>
   obtain⟨g2,v,g1,g3,g4⟩:=Uk g (AO.mk 1 bb l t) hc;have a:Kh g2:=by
    rcases g4 with⟨_,rfl⟩|⟨_,g4⟩
    ·exact hc
    exact g4.cap
   simp only[An,Ad,Aa,g1,g3];rw[Bk<|by grind]
   cases v with
   |true=>
    refine .inl ⟨AO.mk 1 bb l t,g2,rfl,a,?_⟩
    cases hb:(bb==b)with
    |true=>rfl
    |false=>rfl
   |false=>
    refine .inr ⟨g2,_,rfl,?_⟩
    cases hb:(bb==b)with
    |true=>grind
    |false=>simp
abbrev MvS:=Int×List AO×List Block
def e8 (sq:Int) (y:Ap):Page:=Page.mk 1 sq y.Page.Tx 0 1 y.Page.Text
noncomputable def mv (b:Int):List Ap->MvS->Option (Option MvS)
 |[],o=>some (some o)
 |y::ys,o=>(DN (Flash.mk o.2.2) o.2.1 (e8 o.1 y)).bind λv=>if v.2.2=true then(match v.2.1.getLast? with
  |some s=>if(s.Block==b)=true then some none else mv b ys (o.1+1,v.2.1,v.1.Blocks)
  |none=>some none)else some none
theorem ABN (b:Int):∀(xs ys:List Ap) (o:MvS),mv b (xs++ys) o=(mv b xs o).bind λq=>match q with
  |some o'=>mv b ys o'
  |none=>some none
 |[],ys,o=>rfl
 |x::xs,ys,o=>by
  simp only[BH,mv]
  cases DN (Flash.mk o.2.2) o.2.1 (e8 o.1 x)with
  |none=>rfl
  |some v=>
   simp only[Aa];split
   ·split
    ·split
     ·rfl
     exact ABN b xs ys _
    rfl
   rfl
def MvI (m:Nat) (o:MvS):Prop:=Kh (Flash.mk o.2.2)/\o.2.1.length<=m/\0<=o.1/\o.1<=1000000001+m
theorem tY {b:Int} {o:MvS} (h:MvI m o) (hm:m<=1000):
  (∃s g',DN (Flash.mk o.2.2) o.2.1 (e8 o.1 y)=some (g',o.2.1++ [s],true)/\(s.Block==b)=false/\(∀ys,mv b (y::ys) o=mv b ys (o.1+1,o.2.1++ [s],g'.Blocks))/\MvI (m+1) (o.1+1,o.2.1++ [s],g'.Blocks)/\CP (Gj.mk (Flash.mk o.2.2) o.2.1) (e8 o.1 y) b=some (true,Gj.mk g' (o.2.1++ [s])))\/
  ((∀ys,mv b (y::ys) o=some none)/\(∃w,CP (Gj.mk (Flash.mk o.2.2) o.2.1) (e8 o.1 y) b=some (false,w))/\((∃s g',DN (Flash.mk o.2.2) o.2.1 (e8 o.1 y)=some (g',o.2.1++ [s],true)/\(s.Block==b)=true)\/∃g' st,DN (Flash.mk o.2.2) o.2.1 (e8 o.1 y)=some (g',st,false))):=by
 obtain⟨h1,h2,h3,h4⟩:=h
 rcases AGn h1 o.2.1 (by omega) (e8 o.1 y) b with⟨s,g',a1,a2,a3⟩|⟨g',st,a1,w,a2⟩
 ·cases hb:(s.Block==b)with
  |true=>
   rw[hb]at a3;exact .inr ⟨λys=>by simp only[mv,a1,Aa,Cf,List.getLast?_concat,hb],⟨_,a3⟩,.inl ⟨s,g',a1,hb⟩⟩
  |false=>
   rw[hb]at a3;refine .inl ⟨s,g',a1,hb,λys=>by simp only[mv,a1,Aa,Cf,List.getLast?_concat,hb,Es,Ke],⟨a2,?_,?_,?_⟩,by rw[a3];rfl⟩
   ·grind
   ·omega
   omega
 exact .inr ⟨λys=>by simp[mv,a1],⟨w,a2⟩,.inr ⟨g',st,a1⟩⟩
theorem ABM {b:Int}:∀(xs:List Ap) {m:Nat} {o:MvS},MvI m o->m+xs.length<=1000->∃v,mv b xs o=some v/\∀o',v=some o'->MvI (m+xs.length) o'
 |[],m,o,h,_=>⟨some o,rfl,λo' e=>by grind⟩
 |x::xs,m,o,h,hm=>by
  rw[AA]at hm
  rcases tY (b:=b) (y:=x) h (by omega)with⟨s,g',a1,a2,a3,a4,a5⟩|⟨a1,_⟩
  ·obtain⟨v,v1,v2⟩:=ABM xs a4 (by omega);exact⟨v,by rw[a3,v1],λo' e=>by grind⟩
  exact⟨none,a1 xs,λo' e=>by cases e⟩
def LD (b i:Int) (nd:List Bool) (r:List Ap):List Ap:=((nd.zip r).filter λq=>q.1&&(q.2.Block==b)&&(q.2.Leaf==i)).map Prod.snd
theorem wJ (hr:r.length<=40) (hk:∀y∈r,y.Page.Kind=1->y.Page.Count=1/\y.Page.Part=0) (d:nd.length=r.length) (hn:∀(j:Nat) y,r[j]?=some y->nd[j]?=some true->y.Page.Kind=1) (b i:Int):∀(n j:Nat),j+n=r.length->∀{m:Nat} {o:MvS},MvI m o->m+n<=1000->
  Al (λs:List AO×Int×Int×List Block=>EK b r nd i s.1 s.2.1 s.2.2.1 s.2.2.2) (o.2.1,o.1,(j:Int),o.2.2)=(mv b (LD b i (nd.drop j) (r.drop j)) o).map λq=>match q with
   |some o'=> .inl (o'.2.1,o'.1,o'.2.2)
   |none=> .inr (.inr (.inr ([],false)))
 |0,j,hj,m,o,ho,hm=>by
  rw[Ax];simp only[EK,I9];rw[cF,List.drop_of_length_le (by omega),List.drop_of_length_le (by omega)];rfl
 |n+1,j,hj,m,o,ho,hm=>by
  have a:j<r.length:=by omega
  have hx:=Ab a;have c:=Ab (show j<nd.length by omega);have hd:nd.drop j=nd[j]::nd.drop (j+1):=AI (by omega);have e:r.drop j=r[j]::r.drop (j+1):=AI a
  have go:∀{m':Nat} {o':MvS},MvI m' o'->m'+n<=1000->_:=λ{m' o'} h1 h2=>wJ hr hk d hn b i n (j+1) (by omega) (m:=m') (o:=o') h1 h2
  rw[Ax];simp only[EK,DH a,Au,hx,c,Aa];rw[ad1,hd,e];have es:LD b i (nd[j]::nd.drop (j+1)) (r[j]::r.drop (j+1))=if(nd[j]&&(r[j].Block==b)&&(r[j].Leaf==i))=true then r[j]::LD b i (nd.drop<|j+1) (r.drop<|j+1)else LD b i (nd.drop<|j+1) (r.drop<|j+1):=by
   simp only[LD,List.zip_cons_cons,List.filter_cons];split<;>simp
  rw[es]
  cases f:nd[j]with
  |false=>
   exact go ho<|by omega
  |true=>
   cases hb:(r[j].Block==b)with
   |false=>
    simp only[bne,hb,Ck,Ai,Aa,Bool.false_and,Es,Ke];exact go ho<|by omega
   |true=>
    simp only[bne,hb,An,Ad,Aa,WR]
    cases g:(r[j].Leaf==i)with
    |false=>
     exact go ho<|by omega
    |true=>
     simp only[An,Ad,Cf];have h1:=hn j r[j] hx (by rw[c,f]);obtain⟨h2,h3⟩:=hk r[j] (Aw a) h1;have ep:Page.mk r[j].Page.Kind o.1 r[j].Page.Tx r[j].Page.Part r[j].Page.Count r[j].Page.Text=e8 o.1 r[j]:=by rw[h1,h2,h3];rfl
     rw[ep];obtain⟨c1,c2,c3,c4⟩:=ho
     rcases tY (b:=b) (y:=r[j]) ⟨c1,c2,c3,c4⟩ (by omega)with⟨s,g',a1,a2,a3,a4,_⟩|⟨a1,_,⟨s,g',a2,a3⟩|⟨g',st,a2⟩⟩
     ·rw[a1,a3];simp only[Aa,An,Ad];rw[Bj,Ak,BG,Cp,show((o.2.1.length+1:Nat):Int)-1=(o.2.1.length:Int) by omega,Fp];simp only[Aa,a2,Ad];rw[Cw];exact go a4<|by omega
     ·rw[a2,a1];simp only[Aa,An,Ad];rw[Bj,Ak,BG,Cp,show((o.2.1.length+1:Nat):Int)-1=(o.2.1.length:Int) by omega,Fp]
      grind
     grind
theorem ZB (k:IntKind) (n:Nat) (h:n<=12) (hk:k= .u8\/k= .u64):k.wrap (n:Int)=(n:Int):=by
 have:n=0\/n=1\/n=2\/n=3\/n=4\/n=5\/n=6\/n=7\/n=8\/n=9\/n=10\/n=11\/n=12:=by omega
 rcases hk with rfl|rfl<;>rcases this with rfl|rfl|rfl|rfl|rfl|rfl|rfl|rfl|rfl|rfl|rfl|rfl|rfl<;>rfl
set_option maxRecDepth 20000 in
theorem fT (n:Nat) (h:n<=12):∃v,Xq (IntKind.u64.wrap (n:Int))=some v:=by
 rw[ZB _ n h<|.inr rfl];unfold Xq bH;generalize hT:(bs _)=T;have a:13<=(L T).length:=by rw[<-hT,Em];decide
 rw[cF,Aa,cF,Aa,cF,Aa,ZB _ n h<|.inl rfl,EZ (i:=n) _<|by omega];exact⟨_,rfl⟩
theorem gR {γ:Type} (a:γ->Int) (l:List γ) (hl:l.length<=12):∃r,LB (NW a) l=some r/\srt a r/\BV a l r:=by
 obtain⟨v,hv⟩:=fT l.length hl;obtain⟨r,h1,h2,h3⟩:=Jj a [] l [] (by simp;omega);unfold LB;rw[Bj,hv];unfold ES;rw[Ax];simp only[Gl];rw[Cp,cT]
 grind
def nH (l:List Ap):Prop:=l.Pairwise λx y=>x.Page.Tx≠y.Page.Tx
theorem cM {l:List Ap} {p:Ap->Bool} (hl:nH l) (hu:∀x∈l,∀y∈l,p x=true->p y=true->x=y) (hy:y∈l) (hp:p y=true):l.filter p=[y]:=by
 induction l with
 |nil=>cases hy
 |cons x l ih=>
  have h1:=C1.1 hl
  have hu':∀a∈l,∀c∈l,p a=true->p c=true->a=c:=λa ha c hc=>hu a (Lx _ ha) c<|Lx _ hc
  cases hx:p x with
  |true=>
   have e:x=y:=hu x (by simp) y hy hx hp;subst e;rw[CW hx,Bp.2]
   grind
  |false=>
   rw[CX<|by simp[hx]]
   rcases DL.1 hy with rfl|hy
   ·grind
   exact ih h1.2 hu' hy
theorem AA8 {c:List Ap} (ha:nH a) (hc:nH c) (hm:∀y,y∈a↔y∈c) (hu:∀x∈a,∀y∈a,x.Leaf=y.Leaf->x=y):BV BE a c:=by
 intro k
 have e1:∀x,(BE x==k)=true↔x.Leaf=k:=λx=>by rw[CG];rfl
 by_cases h:∃y∈a,y.Leaf=k
 ·obtain⟨y,y1,y2⟩:=h
  rw[cM ha (λx hx z hz p q=>hu x hx z hz<|by grind) y1<|(e1 y).2 y2,
   cM hc (λx hx z hz p q=>hu x ((hm x).2 hx) z ((hm z).2 hz)<|by grind) ((hm y).1 y1) ((e1 y).2 y2)]
 rw[Bp.2 λx hx p=>h ⟨x,hx,(e1 x).1 p⟩,Bp.2 λx hx p=>h ⟨x,(hm x).2 hx,(e1 x).1 p⟩]
def HZ (r:List Ap) (b:Int) (live:List Int):List Ap:=live.filterMap λc=>match PJ c r r.length with
 |some j=>if bk r b j=true then r[j]? else none
 |none=>none
theorem Xc (r:List Ap) (b:Int) (a:List Int) (c:Int):HZ r b (a++ [c])=HZ r b a++HZ r b [c]:=by unfold HZ;grind
theorem AC3 (h:fW f r) {live:List Int} (a:Lj s=some live) (hl:live.length<=16777216) (b:Int):TG f s b=some (HZ r b live):=by
 unfold TG;rw[a];simp only[Aa];obtain⟨u,h1,h2⟩:=AG (body:=λq:List Ap×Int=>Hz f b live q.1 q.2) (λ(u:List Ap) i=>(u,i)) live.length (λi u=>u=HZ r b (live.take i)) (λu=>u=HZ r b live)
  (λu i hi hu=>by
   have hg:live[i]?=some live[i]:=Ab hi;obtain⟨o,o1,o2⟩:=XA f r h.i h.len h.srt live[i];have ho:o=PJ live[i] r r.length:=Xv o2<|PI _ _ _<|Az _;have d:u.length<=i:=by
    rw[hu];have:=List.length_filterMap_le (λc=>match PJ c r r.length with|some j=>if bk r b j=true then r[j]? else none|none=>none)<|live.take i;rw[Bw]at this;unfold HZ;omega
   have et:live.take (i+1)=live.take i++ [live[i]]:=by simp
   refine .inl ?_;simp only[Hz,DH hi,Au,hg,Aa,o1]
   cases ht:PJ live[i] r r.length with
   |none=>
    rw[ht]at ho;subst ho;rw[ad1];rw[et,Xc,<-hu];simp[HZ,ht]
   |some j=>
    rw[ht]at ho;subst ho;obtain⟨hj,_⟩:=Od (Az _) ht;have hr:=Ab hj;simp only[Option.isSome_some,Ai,Aa,Ln]
    cases hb:bk r b j with
    |true=>
     have hb':((r[j]?.getD P8).Block==b)=true:=hb;rw[hb'];rw[Bk (by grind),ad1];rw[et,Xc,<-hu];simp[HZ,ht,hb,hr]
    |false=>
     have hb':((r[j]?.getD P8).Block==b)=false:=hb;rw[hb'];rw[ad1];rw[et,Xc,<-hu]
     simp[HZ,ht,hb])
  (λu hu=>⟨u,by simp only[Hz,Dy],by grind⟩) (s:=[]) (by simp[HZ])
 rw[h1,h2];rfl
theorem Tu {b:Int} {live:List Int} (hy:y∈HZ r b live):∃c∈live,∃j,PJ c r r.length=some j/\r[j]?=some y/\y.Block=b/\y.Page.Kind=1/\y.Page.Tx=c:=by
 obtain⟨c,c1,c2⟩:=List.mem_filterMap.1 hy
 cases ht:PJ c r r.length with
 |none=>grind
 |some j=>
  rw[ht]at c2;simp only at c2;split at c2
  ·rename_i hb;obtain⟨_,z,z1,z2⟩:=Od (Az _) ht;rw[z1]at c2
   injection c2 with c2
   subst c2;simp only[bk,z1,Ba,CG]at hb;simp only[Ji,Ag,CG]at z2
   grind
  cases c2
theorem gP (r:List Ap) (b:Int):∀{live:List Int},live.Nodup->nH (HZ r b live)
 |[],_=>List.Pairwise.nil
 |c::live,h=>by
  obtain⟨h1,h2⟩:=CS.1 h;have ih:=gP r b h2;unfold HZ;rw[List.filterMap_cons];split
  ·exact ih
  rename_i y hy;refine C1.2 ⟨λz hz e=>?_,ih⟩;obtain⟨c',q1,j,q2,q3,q4,q5,q6⟩:=Tu (r:=r) (b:=b) (live:=live) hz
  obtain⟨c'',p1,j2,p2,p3,p4,p5,p6⟩:=Tu (r:=r) (b:=b) (live:=[c]) (y:=y) (by
   unfold HZ
   grind)
  grind
def PL (b:Int) (nd:List Bool) (r:List Ap):List Ap:=LD b 0 nd r++(LD b 1 nd r++(LD b 2 nd r++LD b 3 nd r))
theorem VQ {b i:Int}:y∈LD b i nd r↔(∃j:Nat,r[j]?=some y/\nd[j]?=some true)/\y.Block=b/\y.Leaf=i:=by
 unfold LD;simp only[A5,AY,Ag,CG];constructor
 ·rintro⟨⟨n,z⟩,⟨h1,⟨h2,h3⟩,h4⟩,rfl⟩;obtain⟨j,hj⟩:=List.getElem?_of_mem h1;rw[List.getElem?_zip_eq_some]at hj
  grind
 rintro⟨⟨j,h1,h2⟩,h3,h4⟩;exact⟨(true,y),⟨Ar<|List.getElem?_zip_eq_some.2 ⟨h2,h1⟩,⟨rfl,h3⟩,h4⟩,rfl⟩
theorem oT (hn:∀(j:Nat) y,r[j]?=some y->nd[j]?=some true->PJ y.Page.Tx r r.length=some j) (b i:Int):nH (LD b i nd r):=by
 unfold LD nH;rw[K9]
 have h0:(nd.zip r).Pairwise λp q=>p.1=true->q.1=true->p.2.Page.Tx≠q.2.Page.Tx:=by
  rw[CH];intro x y hx hy a p q e;have a1:=(List.getElem?_zip_eq_some (l₁:=nd) (l₂:=r)).1<|Ab hx;have a2:=(List.getElem?_zip_eq_some (l₁:=nd) (l₂:=r)).1<|Ab hy
  grind
 have h1:=h0.filter λq=>q.1&&(q.2.Block==b)&&(q.2.Leaf==i)
 grind
def zA (b:Int) (nd:List Bool) (r:List Ap):Nat->Nat->List Ap
 |0,_=>[]
 |n+1,i=>LD b (i:Int) nd r++zA b nd r n (i+1)
theorem AA6 (b i:Int) (nd:List Bool) (r:List Ap):(LD b i nd r).length<=r.length:=by
 unfold LD
 grind
theorem wI (hr:r.length<=40) (hk:∀y∈r,y.Page.Kind=1->y.Page.Count=1/\y.Page.Part=0) (c:nd.length=r.length) (hn:∀(j:Nat) y,r[j]?=some y->nd[j]?=some true->y.Page.Kind=1) (b:Int):∀(n i:Nat),i+n=4->∀{m:Nat} {o:MvS},MvI m o->m+n*40<=1000->
  Al (λs:List AO×Int×Int×List Block=>F6 b r nd s.1 s.2.1 s.2.2.1 s.2.2.2) (o.2.1,o.1,(i:Int),o.2.2)=(mv b (zA b nd r n i) o).map λq=>match q with
   |some o'=> .inl o'.2.1
   |none=> .inr ([],false)
 |0,i,hi,m,o,ho,hm=>by
  rw[Ax];simp only[F6];rw[cF];rfl
 |n+1,i,hi,m,o,ho,hm=>by
  rw[Ax];simp only[F6];rw[cT];have a:=wJ hr hk c hn b (i:Int) r.length 0 (by omega) ho (by omega);simp only[List.drop_zero]at a;rw[show((0:Nat):Int)=0 from rfl]at a;rw[a];have d:=AA6 b (i:Int) nd r;obtain⟨v,v1,v2⟩:=ABM (b:=b) (LD b (i:Int) nd r) ho (by omega);have es:zA b nd r (n+1) i=LD b (i:Int) nd r++zA b nd r n (i+1):=rfl;rw[es,ABN,v1]
  cases v with
  |none=>rfl
  |some o'=>
   rw[ad1];exact wI hr hk c hn b n (i+1) (by omega) (v2 o' rfl)<|by omega
theorem yG (d:Device) (b:Int) (X:List Ap) (hX:X.length<=100) (hd:0<=d.Seq/\d.Seq<=1000000001):∀(n i:Nat),i+n=X.length->∀{m:Nat} {o:MvS},MvI m o->m+n<=1000->o.1=d.Seq+i->
  Al (λs:Int×List Block×List AO=>IN d b X s.1 s.2.1 s.2.2) ((i:Int),o.2.2,o.2.1)=(mv b (X.drop i) o).map λq=>match q with
   |some o'=> .inl (o'.2.2,o'.2.1)
   |none=> .inr ([],false)
 |0,i,hi,m,o,ho,hm,hs=>by
  rw[Ax];simp only[IN,I9];rw[cF,List.drop_of_length_le (by omega)];rfl
 |n+1,i,hi,m,o,ho,hm,hs=>by
  have a:i<X.length:=by omega
  have hx:=Ab a;rw[Ax];simp only[IN,DH a,Au,hx,Aa];rw[Cw,<-hs,AI a];have ep:Page.mk 1 o.1 X[i].Page.Tx 0 1 X[i].Page.Text=e8 o.1 X[i]:=rfl;rw[ep]
  rcases tY (b:=b) (y:=X[i]) ho (by omega)with⟨s,g',a1,a2,a3,a4,a5⟩|⟨a1,⟨w,a2⟩,_⟩
  ·rw[a5,a3];rw[ad1];exact yG d b X hX hd n (i+1) (by omega) a4 (by omega)<|by omega
  grind
theorem iF {x:Ap} (h:Hc d r) (hx:x∈r) (hy:y∈r) (hb:x.Block=y.Block) (hl:x.Leaf=y.Leaf):x=y:=by
 obtain⟨b,l,g1,g2,_,g3⟩:=h.scan.page x hx;obtain⟨b',l',k1,k2,_,k3⟩:=h.scan.page y hy;rw[hb,k1]at g1
 injection g1 with g1
 subst g1;rw[hl,k2]at g2
 injection g2 with g2
 subst g2;rw[k3]at g3
 injection g3 with g3
 cases x;cases y
 grind
theorem zW (h:Hc d r) (hy:y∈r):0<=y.Leaf/\y.Leaf<4:=by
 obtain⟨b,l,g1,g2,_,g3⟩:=h.scan.page y hy;obtain⟨_,k1⟩:=Cg g1;obtain⟨q0,k2⟩:=Cg g2;have:=(h.fl.blk b<|Ar k1).four
 grind
theorem dU (h:Hc d r) (m:r.length<=40) {live:List Int} (l1:F7 d.Store=some live) (l2:asc live) (l3:∀x,x∈live↔DJ (AL d.Store) x) (l4:live.length<=16777216) (b:Int):
  ∃v,mv b (PL b (C8 r live 1000000001) r) (d.Seq,[],d.Flash.Blocks)=some v/\Hn d b=some (match v with|some o=>(o.2.1,true)|none=>([],false))/\MY d b=some (match v with|some o=>(o.2.1,true)|none=>([],false))/\
  (PL b (C8 r live 1000000001) r).length=(HZ r b live).length/\(PL b (C8 r live 1000000001) r).length<=4/\∀y,y∈PL b (C8 r live 1000000001) r↔y∈HZ r b live:=by
 have n:=h.pages;have w:1<=d.Seq/\d.Seq<=1000000001:=by
  rw[h.seq];have h1:=Ok r;refine⟨h1.2.1,h1.2.2 _ (by omega) λy hy=>?_⟩;have:=(n.seq y hy).2;omega
 have hk:∀y∈r,y.Page.Kind=1->y.Page.Count=1/\y.Page.Part=0:=by
  intro y hy k1;obtain⟨_,_,_,c1,c2,_,c3⟩:=ADJ h hy;omega
 have hn:∀(j:Nat) y,r[j]?=some y->(C8 r live 1000000001)[j]?=some true->y.Page.Kind=1:=λj y hy hj=>(bC h l3 hy hj).1
 have f:∀(j:Nat) y,r[j]?=some y->(C8 r live 1000000001)[j]?=some true->PJ y.Page.Tx r r.length=some j/\y.Page.Tx∈live:=by
  intro j y hy hj;rw[PT r live _ hy]at hj
  injection hj with hj
  rw[CT]at hj
  rcases hj with hj|hj
  ·simp only[DC,Ag,CG,A6]at hj;have:=(n.tx y<|Ar hy).2;omega
  rw[Du]at hj;obtain⟨c,c1,c2⟩:=hj;have c2':PJ c r r.length=some j:=by simpa using c2
  obtain⟨_,z,z1,z2⟩:=Od (Az _) c2';rw[hy]at z1
  injection z1 with z1
  subst z1;simp only[Ji,Ag,CG]at z2
  grind
 have hm:∀y,y∈PL b (C8 r live 1000000001) r↔y∈HZ r b live:=by
  intro y;have e1:y∈PL b (C8 r live 1000000001) r↔(∃j:Nat,r[j]?=some y/\(C8 r live 1000000001)[j]?=some true)/\y.Block=b:=by
   unfold PL;simp only[Ao,VQ];constructor
   ·grind
   rintro⟨⟨j,q1,q2⟩,q3⟩;have:=zW h<|Ar q1
   grind
  rw[e1];constructor
  ·rintro⟨⟨j,q1,q2⟩,q3⟩;obtain⟨q4,q5⟩:=f j y q1 q2;refine List.mem_filterMap.2 ⟨y.Page.Tx,q5,?_⟩;rw[q4];simp[bk,q1,q3]
  intro hy;obtain⟨c,c1,j,c2,c3,c4,c5,c6⟩:=Tu hy;refine⟨⟨j,c3,?_⟩,c4⟩;rw[PT r live _ c3,Av,CT]
  grind
 have p:∀y∈HZ r b live,y∈r/\y.Block=b:=λy hy=>by
  obtain⟨c,c1,j,c2,c3,c4,c5,c6⟩:=Tu hy
  grind
 have q:∀x∈HZ r b live,∀y∈HZ r b live,x.Leaf=y.Leaf->x=y:=λx hx y hy e=>iF h (p x hx).1 (p y hy).1 (by grind) e
 have t:∀i:Int,∀y∈LD b i (C8 r live 1000000001) r,y∈r/\y.Block=b/\y.Leaf=i:=λi y hy=>by
  obtain⟨⟨j,q1,q2⟩,q3,q4⟩:=VQ.1 hy
  grind
 have h5:∀i:Int,(LD b i (C8 r live 1000000001) r).length<=1:=by
  intro i;have hd:=oT (λj y hy hj=>(f j y hy hj).1) b i
  rcases hc:LD b i (C8 r live 1000000001) r with _|⟨x,_|⟨y,l⟩⟩
  ·exact Jt 1
  ·exact Az 1
  have hx:=t i x (by rw[hc];simp);have hy:=t i y (by rw[hc];simp);rw[hc]at hd;exact absurd (iF h hx.1 hy.1 (by rw[hx.2.1,hy.2.1])<|by rw[hx.2.2,hy.2.2]) λe=>(C1.1 hd).1 y (by simp)<|by rw[e]
 have h0:(PL b (C8 r live 1000000001) r).length<=4:=by
  unfold PL
  grind
 have h2:nH (PL b (C8 r live 1000000001) r):=by
  have hd:∀i:Int,nH (LD b i (C8 r live 1000000001) r):=λi=>oT (λj y hy hj=>(f j y hy hj).1) b i
  have cross:∀i k:Int,i≠k->∀x∈LD b i (C8 r live 1000000001) r,∀y∈LD b k (C8 r live 1000000001) r,x.Page.Tx≠y.Page.Tx:=by
   intro i k h3 x hx y hy e;obtain⟨⟨j,q1,q2⟩,q3,q4⟩:=VQ.1 hx;obtain⟨⟨j',p1,p2⟩,p3,p4⟩:=VQ.1 hy
   grind
  unfold PL nH;refine AR.2 ⟨hd 0,AR.2 ⟨hd 1,AR.2 ⟨hd 2,hd 3,cross 2 3<|by decide⟩,?_⟩,?_⟩
  ·grind
  intro x hx y hy
  rcases Ao.1 hy with hy|hy
  ·grind
  grind
 have a:BV BE (HZ r b live) (PL b (C8 r live 1000000001) r):=AA8 (gP r b<|jQ l2) h2 (λy=>(hm y).symm) q;have u:=a.len;have g:srt BE (PL b (C8 r live 1000000001) r):=by
  have hc:∀i:Int,srt BE (LD b i (C8 r live 1000000001) r):=by
   intro i
   refine List.pairwise_of_forall_mem_list λx hx y hy=>?_
   show x.Leaf<=y.Leaf
   grind
  have cross:∀i k:Int,i<=k->∀x∈LD b i (C8 r live 1000000001) r,∀y∈LD b k (C8 r live 1000000001) r,BE x<=BE y:=by
   intro i k h3 x hx y hy;show x.Leaf<=y.Leaf
   grind
  unfold PL srt;refine AR.2 ⟨hc 0,AR.2 ⟨hc 1,AR.2 ⟨hc 2,hc 3,cross 2 3<|by decide⟩,?_⟩,?_⟩
  ·intro x hx y hy
   rcases Ao.1 hy with hy|hy
   ·exact cross 1 2 (by decide) x hx y hy
   exact cross 1 3 (by decide) x hx y hy
  intro x hx y hy
  rcases Ao.1 hy with hy|hy
  ·exact cross 0 1 (by decide) x hx y hy
  rcases Ao.1 hy with hy|hy
  ·exact cross 0 2 (by decide) x hx y hy
  exact cross 0 3 (by decide) x hx y hy
 have I0:MvI 0 (d.Seq,[],d.Flash.Blocks):=⟨h.fl.cap,Az _,by omega,by omega⟩;obtain⟨v,v1,v2⟩:=ABM (b:=b) (PL b (C8 r live 1000000001) r) I0 (by omega);refine⟨v,v1,?_,?_,u.symm,h0,hm⟩
 ·unfold Hn;rw[h.scan.s,l1];simp only[Aa];rw[N9 r live _ h.scan.len l4];have h4:live.foldl (e9 r) (r.map<|DC 1000000001)=C8 r live 1000000001:=rfl;rw[h4];have ho:=wI m hk (Kx r live 1000000001) hn b 4 0 (by omega) I0 (by omega);have eF:zA b (C8 r live 1000000001) r 4 0=PL b (C8 r live 1000000001) r:=by
   simp[zA,PL]
  grind
 unfold MY;rw[AC3 h.scan (b9 h.st l1) l4 b];simp only[Aa];obtain⟨X,x1,x2,x3⟩:=gR BE (HZ r b live) (by omega);have hX:X=PL b (C8 r live 1000000001) r:=Oh BE x2 g (λk=>by rw[x3 k,<-a k]);rw[x1,hX];have ho:=yG d b (PL b (C8 r live 1000000001) r) (by omega) ⟨by omega,w.2⟩ (PL b (C8 r live 1000000001) r).length 0 (by omega) I0 (by omega)<|by omega
 grind
theorem ACx (s:Store) (hv:s.Vols.length<=1048576) (id:Int):∃w,Dg s id=some w/\(w<0↔HH (AL s) id=none):=by
 rcases DU s hv id with⟨e,h⟩|⟨k,v,e,h1,h2,_⟩
 ·exact⟨_,e,⟨λ_=>Jp.1 h,λ_=>by omega⟩⟩
 refine⟨_,e,⟨λhh=>by omega,λhh=>absurd h2<|Jp.2 hh v<|Ar h1⟩⟩
theorem ACG (h:Hc d r) (hn:d.Store.Next<1000000000) (q:Ask):∃b text no,EI d q=some (b,text,no)/\(b=[]\/∃x p,b=[x]/\Dd (AL d.Store) d.Store.Next x=some p)/\(L text≠ []->q.Kind=1):=by
 have o:=h.st.len;have g:=h.st.nx;obtain⟨v,a1,a2⟩:=PO q
 have a:∀{P:Prop},L (bs [])≠ []->P:=λhh=>absurd (Em _) hh
 unfold EI;rw[a1];simp only[Aa]
 cases v with
 |false=>exact⟨_,_,_,rfl,.inl rfl,a⟩
 |true=>
  have hq:=a2 rfl;simp only[An,Ad];have k:=hq.kind;obtain⟨w,hw,i⟩:=ACx d.Store (by omega) q.Vol;rw[hw];simp only[Aa];by_cases h34:q.Kind=3\/q.Kind=4
  ·have:(cond (q.Kind==3) (some true) (some<|q.Kind==4):Option Bool)=some true:=by grind
   rw[this];simp only[Aa,Ai];by_cases f:w<0
   ·rw[Af (by omega:¬w>=0)];simp only[Ad];obtain⟨u,hu,s⟩:=ACx d.Store (by omega) q.Of;obtain⟨j2,l,m⟩:∃j2,(cond (q.Kind==4) ((Dg d.Store q.Of).bind λv3=>some<|decide<|v3<0) (some false):Option Bool)=some j2/\(j2=false->q.Kind=4->HH (AL d.Store) q.Of≠none):=by grind
    rw[l];simp only[Aa]
    cases j2 with
    |true=>exact⟨_,_,_,rfl,.inl rfl,a⟩
    |false=>
     simp only[Ad];rw[Bj];by_cases j:(d.Store.Vols.length:Int)>=3
     ·rw[Ac j];exact⟨_,_,_,rfl,.inl rfl,a⟩
     rw[Af j];refine⟨_,_,_,rfl,.inr ⟨_,(bN (AL d.Store) q.Vol (if 0<q.Of then(HH (AL d.Store) q.Of).getD Ob else Ob),d.Store.Next),rfl,?_⟩,a⟩;unfold Dd;rw[AM (by rw[AEP hq.vol hq.of_];simp),AM (by simp),AH rfl,AM];simp only[not_or];refine⟨?_,by rw[i.1 f];simp,by rw[IR];omega⟩;rintro⟨e1,e2⟩
     rcases h34 with e|e
     ·have:=hq.no (by omega);omega
     exact m rfl e e2
   rw[Ac (by omega:w>=0)];exact⟨_,_,_,rfl,.inl rfl,a⟩
  have:(cond (q.Kind==3) (some true) (some<|q.Kind==4):Option Bool)=some false:=by grind
  rw[this];simp only[Aa,Ad];by_cases f:w<0
  ·rw[Af (by omega:¬w>=0)];exact⟨_,_,_,rfl,.inl rfl,a⟩
  rw[Ac (by omega:w>=0)]
  have hg:HH (AL d.Store) q.Vol≠none:=λe=>f<|i.2 e
  have taken:∀x:Cx,G9 x=true->x.Kind≠1->x.Kind≠2->x.Vol=q.Vol->x.Chunk<1000000000->∃p,Dd (AL d.Store) d.Store.Next x=some p:=by
   intro x x1 x2 x3 x4 x5;unfold Dd;have x6:¬(HH (AL d.Store) x.Vol=none\/x.Chunk=1000000000):=by grind
   rw[AM (by rw[x1];simp),AM x2,AM x3,AM x6];split<;>exact⟨_,rfl⟩
  simp only[An,Ad]
  cases k1:(q.Kind==1)with
  |true=>
   simp only[Ai];have k1':q.Kind=1:=by simpa using k1
   obtain⟨live,l1,l2,l3,l4⟩:=Hv h.st;obtain⟨c,f1,f2⟩:=RI h l4 q.Text;rw[l1,Aa,f1];simp only[Aa]
   rcases f2 with⟨rfl,f2⟩|⟨f2,f3⟩
   ·obtain⟨z,z1,z2,z3⟩:=rZ q.Text hq.text;rw[show((0:Int)==0)=true from rfl,z1];obtain⟨p,hp⟩:=taken (Cx.mk 4 q.Vol q.Sector d.Store.Next) (ABl hq.vol (by have:=hq.sec;omega) ⟨g.1,g.2⟩) (by simp) (by simp) rfl hn;exact⟨_,_,_,rfl,.inr ⟨_,_,rfl,hp⟩,λ_=>k1'⟩
   have n:=(l3 c).1 f2;have t:=Zq h.st n;rw[show(c==0)=false by grind];obtain⟨p,hp⟩:=taken (Cx.mk 4 q.Vol q.Sector c) (ABl hq.vol (by have:=hq.sec;omega)<|by omega) (by simp) (by simp) rfl (by show c<_;omega);exact⟨_,_,_,rfl,.inr ⟨_,_,rfl,hp⟩,λ_=>k1'⟩
  |false=>
   simp only[Ad]
   cases k2:(q.Kind==2)with
   |true=>
    obtain⟨p,hp⟩:=taken (Cx.mk 5 q.Vol q.Sector 0) (by
     have:=hq.vol;have:=hq.sec;unfold G9
     grind) (by simp) (by simp) rfl<|by grind
    exact⟨_,_,_,rfl,.inr ⟨_,_,rfl,hp⟩,a⟩
   |false=>
    simp only[Ad]
    cases k5:(q.Kind==5)with
    |true=>
     obtain⟨p,hp⟩:=taken (Cx.mk 3 q.Vol 0 0) (by
      have:=hq.vol;unfold G9
      grind) (by simp) (by simp) rfl<|by grind
     exact⟨_,_,_,rfl,.inr ⟨_,_,rfl,hp⟩,a⟩
    |false=>exact⟨_,_,_,rfl,.inl rfl,a⟩
theorem AAJ (h:Bu f):Oc f<=10000:=by
 have hl:∀l:List Leaf,(∀x∈l,lfP x)->(l.map PF).sum<=120*l.length:=by
  intro l
  induction l with
  |nil=>intro _;simp
  |cons x l ih=>
   intro hx;rw[Cr,FE,AA];have:=ih (λy hy=>hx y<|by simp[hy]);have h1:PF x<=120:=by
    have a:x.Text.size=(L x.Text).length:=by rfl
    unfold PF
    rcases hx x (by simp)with⟨_,e⟩|⟨_,_,e⟩|⟨_,e⟩
    ·rw[a,e];simp
    ·omega
    omega
   omega
 have hb:∀l:List Block,(∀b∈l,Lt b)->(l.map KC).sum<=500*l.length:=by
  intro l
  induction l with
  |nil=>intro _;simp
  |cons b l ih=>
   intro hx;rw[Cr,FE,AA];have:=ih (λy hy=>hx y<|by simp[hy]);have h1:=hx b (by simp);have h2:=hl b.Leaves h1.leaf;have h4:=h1.four;have hz:KC b=b.Leaves.length+(b.Leaves.map PF).sum:=rfl;omega
 have:=hb f.Blocks h.blk;have hn:=h.n;unfold Oc zl;omega
theorem yU (hf:Bu d.Flash) (hs:C3 d.Store):Nw d<=1048576:=by
 have h1:=AAJ hf;have h2:=hs.len;have h3:=hs.small;have a:∀l:List Bq,(∀k∈l,k.Kids.length=4)->(l.map V6).sum=4*l.length:=by
  intro l
  induction l with
  |nil=>intro _;rfl
  |cons k l ih=>
   intro hl;rw[Cr,FE,ih (λx hx=>hl x<|by simp[hx]),AA];have:=hl k (by simp);unfold V6;omega
 have h4:=a d.Store.Arena.Knots (λk hk=>by
  obtain⟨i,hi,rfl⟩:=A4 hk;have:=(GD.1 hs.ar i hi).1;rw[O4 hi]at this
  exact this)
 have e1:JW d.Store=d.Store.Vols.length+(d.Store.Arena.Knots.length+(d.Store.Arena.Knots.map V6).sum):=rfl;have e2:Nw d=Oc d.Flash+JW d.Store:=rfl;omega
theorem WT (h:Hc d r):Nw d<=1048576:=yU h.fl h.st
theorem sT (s:Store) (hv:s.Vols.length<=1048576) (ha:RB s.Arena):∃l,LT s=some l/\Ry s=some l/\l.length<=1+17*s.Vols.length:=by
 unfold LT Ry;obtain⟨l,h1,h2,h3⟩:=HC (body:=λq:List Cx×Int=>EB s q.1 q.2) (body':=λq:List Cx×Int=>JF s q.1 q.2) (λ(l:List Cx) i=>(l,i)) s.Vols.length (λi l=>l.length<=1+17*i) (λl=>l.length<=1+17*s.Vols.length)
  (λl i hi hl=>by
   have hg:s.Vols[i]?=some s.Vols[i]:=Ab hi;obtain⟨a,a1,a2,a3⟩:=Tr s.Arena ha s.Vols[i].Root;have b:ap 32 l [Cx.mk 2 s.Vols[i].Id 0 0]=some (l++ [Cx.mk 2 s.Vols[i].Id 0 0]):=Bk (by grind);simp only[EB,JF,DH hi,Au,hg,Aa,b,a1,a2];obtain⟨u,u1,u2,u3⟩:=HC (body:=λq:List Cx×Int=>EA s (i:Int) a q.1 q.2) (body':=λq:List Cx×Int=>HS s.Vols[i] a q.1 q.2) (λ(l:List Cx) k=>(l,k)) a.length (λk o=>o.length<=l.length+1+k) (λo=>o.length<=l.length+17)
    (λo k hk ho=>by
     have c:a[k]?=some a[k]:=Ab hk;simp only[EA,HS,DH hk,Au,c,hg,Aa];rw[ad1]
     cases decide (a[k]>0)with
     |true=>
      rw[Bk<|by grind]
      grind
     |false=>grind)
    (λo ho=>⟨by simp only[EA,HS,Dy],o,by simp only[EA,Dy],by omega⟩) (s:=l++ [Cx.mk 2 s.Vols[i].Id 0 0]) (by simp)
   have u1':Al (λq:List Cx×Int=>EA s (i:Int) a q.1 q.2) (l++ [Cx.mk 2 s.Vols[i].Id 0 0],0)=some u:=u1;have u2':Al (λq:List Cx×Int=>HS s.Vols[i] a q.1 q.2) (l++ [Cx.mk 2 s.Vols[i].Id 0 0],0)=some u:=u2;rw[u1',u2',Aa,ad1]
   grind)
  (λl hl=>⟨by simp only[EB,JF,Dy],l,by simp only[EB,Dy],hl⟩) (s:=[Cx.mk 1 0 s.Next 0]) (by simp)
 grind
theorem sS (h:Hc d r):∃st ok,ML d=some (st,ok)/\Pt d=some (st,ok)/\(ok=true->1<=st.length)/\st.length<=1048576:=by
 have hf:Kh d.Flash:=h.fl.cap;obtain⟨b,r1,r2,r3⟩:=sT d.Store (by have:=h.st.len;omega)<|nI h.st;have hb:=h.st.vs;obtain⟨b1,b2⟩:=jN hb;have e:=Wh h.st;rw[r1]at e
 injection e with e
 subst e;obtain⟨st,ok,w1,w2,w3⟩:=PC d hf (Lq (AL d.Store) d.Store.Next) (by omega)<|bs [];refine⟨st,ok,?_,?_,?_,by omega⟩
 ·unfold ML;grind
 ·unfold Pt;grind
 intro ho;subst ho
 rcases RE h.fl h.seqs (Lq (AL d.Store) d.Store.Next) (by unfold Lq;simp) b2 b1 (bs [])with w|⟨steps,T,g,c,q1,q2,q3,q4,q5,q6,q7,q8,q9⟩
 ·rw[w1]at w;cases w
 rw[w1]at q2
 injection q2 with q2
 injection q2 with q2 _
 subst q2;have a:=(Fq q7).2;rw[Ak]at a;have f:(Cs (Io d<|bs []) d.Tx T).length=T.length:=by unfold Cs;grind
 omega
theorem Xz (x a b:Int):GB x a b=some (decide (a<=x/\x<=b)):=by
 unfold GB
 grind
theorem Nf (h:l.length<=1048576):ID l=some l:=by
 unfold ID;rw[Mj<|by omega];rfl
theorem SO (a:Arena) (h:ACr a.Knots):IF a=some a:=by
 unfold IF;have q:=SD (body:=λs:Int×List Bq=>IE a s.1 s.2) a.Knots (λk=>k)
  (λi x b hx ho=>by
   have hi:=(Ae.1 hx).1;have hk:=h.2 x<|Ar hx;simp only[IE,DH hi,Au,hx,Aa];rw[Nf hk];simp only[Aa];have:=h.1;rw[Bk (by simp;omega),ad1]
   rfl)
  (λb=>by simp only[IE,Dy])
 rw[q];simp
theorem O8 (s:Store) (h:ACr s.Arena.Knots) (hv:s.Vols.length<=1048576):Hp s=some s:=by
 unfold Hp;rw[Mj (by omega),SO _ h];rfl
theorem Rz (a:Arena) (ha:a.Knots.length<=1048576):Jo a=some (CL a.Knots):=by rw[WS,KP a ha]
theorem SJ (a:Arena) (ha:a.Knots.length<=1048576) (r:Int):GY a r=some (decide (0<=r/\r<(a.Knots.length:Int))&&!(B8 a.Knots r).Leaf):=by
 unfold GY;rw[Xz,Bj,Cp];simp only[Aa];by_cases h:0<=r/\r<(a.Knots.length:Int)
 ·rw[Ac (by omega:0<=r/\r<=(a.Knots.length:Int)-1),Ac h,Ai,Ic h.1 h.2];simp
 grind
theorem pY {a:Arena} {r:Int} (ha:a.Knots.length<=1048576) (hr:D4 a.Knots r=true):(cond (r !=(-1)) ((GY a r).bind λv2=>some (!v2)) (some false):Option Bool)=some false:=by
 rcases BY hr with rfl|⟨h0,h1,hl⟩
 ·rfl
 rw[show(r !=(-1))=true by simp;omega,Ai,SJ a ha,Ac ⟨h0,h1⟩,hl];rfl
theorem uI {r:Int} {s:Nat} {n:Int} (a:Arena) (ha:a.Knots.length<=1048000) (hK:CL a.Knots=true) (hr:D4 a.Knots r=true) (hs:s<16) (hn:0<=n):
  Zv a r (s:Int) n=some (Arena.mk (Kc a.Knots r s n),(a.Knots.length:Int)+1):=by
 unfold Zv;rw[SO _ (Lp hK<|by omega),Rz a (by omega),Xz,hK];rw[Ac (by omega:0<=(s:Int)/\(s:Int)<=15),Af (by omega:¬n<0)];simp only[An,Ad,Aa];have hq:(cond (r !=(-1)) ((GY a r).bind λv2=>cond (!v2) (some true)<|some false) (some false):Option Bool)=some false:=by
  rcases BY hr with rfl|⟨h0,h1,hl⟩
  ·rfl
  rw[show(r !=(-1))=true by simp;omega,Ai,SJ a (by omega),Ac ⟨h0,h1⟩,hl];rfl
 rw[hq,mk4];simp only[Aa,Ad];have fin:∀(lf tp:List Int),lf.length=4->tp.length=4->Kc a.Knots r s n=a.Knots++ [Bq.mk true<|lf.set (s %4) n,Bq.mk false<|tp.set (s/4) (a.Knots.length:Int)]->
   ((gi lf<|Int.tmod (s:Int) 4).bind λx4=>(gi tp<|qu (s:Int) 4).bind λx5=>(ap 32 a.Knots [Bq.mk true<|si lf (Int.tmod (s:Int) 4) n,Bq.mk false<|si tp (qu (s:Int) 4)<|ln a.Knots]).bind λq2=>some (Arena.mk q2,ad (ln a.Knots) 1))=some (Arena.mk<|Kc a.Knots r s n,(a.Knots.length:Int)+1):=by
  intro lf tp h1 h2 h3;rw[qu4 hs,AAR,Au,Au,Ab (by omega),Ab (by omega),Aa,Bk (by simp;omega),D1,D1,Bj,<-h3,ad1];rfl
 rcases BY hr with rfl|⟨h0,h1,hl⟩
 ·rw[Af (by omega:¬(-1:Int)>=0)];simp only[Ad,Aa];have hx:gi [(-1:Int),-1,-1,-1] (qu (s:Int) 4)=some (-1):=by
   rw[qu4 hs,Au];have:s/4<4:=by omega
   match s/4,this with
   |0,_=>rfl
   |1,_=>rfl
   |2,_=>rfl
   |3,_=>rfl
   |n+4,h=>omega
  rw[hx,Aa,Af (by omega:¬(-1:Int)>=0)];have:=fin [0,0,0,0] [-1,-1,-1,-1] rfl rfl rfl
  grind
 rw[cT,Ic h0 h1];have h4:=(FB hK h0 h1).1;rw[Aa,Nf<|by omega];simp only[Aa];have hx:gi (B8 a.Knots r).Kids (qu (s:Int) 4)=some (MS (B8 a.Knots r)<|s/4):=by rw[qu4 hs,qW (by omega:s/4<(B8 a.Knots r).Kids.length)]
 rw[hx];simp only[Aa]
 rcases Gu hK h0 h1 hl (show s/4<4 by omega)with e|⟨e1,e2,e3⟩
 ·rw[Af (by omega:¬MS (B8 a.Knots r) (s/4)>=0)];have:=fin [0,0,0,0] (B8 a.Knots r).Kids rfl h4 (by unfold Kc PX UO;simp only[AM (show¬r<0 by omega),AH<|show MS (B8 a.Knots r) (s/4)<0 by omega])
  grind
 rw[cT,Ic e1<|by omega];have h5:=(FB hK e1<|by omega).1;rw[Aa,Nf<|by omega];have:=fin (B8 a.Knots<|MS (B8 a.Knots r)<|s/4).Kids (B8 a.Knots r).Kids h5 h4 (by unfold Kc PX UO;grind)
 grind
theorem Zx (l:List Int) (n:Int) (hl:l.length<=1048576):O7 l n=some (l.contains n):=by
 unfold O7;obtain⟨b,h1,h2⟩:=AG (body:=λs:Int=>MV l n s) (λ(_:Unit) i=>i) l.length (λi _=>n∉l.take i) (λb=>(b= .inr true/\n∈l)\/(b= .inl ()/\n∉l))
  (λ_ i hi hs=>by
   have hx:=Ab hi;simp only[MV,DH hi,Au,hx,Aa];rw[ad1]
   cases e:(l[i]==n)with
   |true=>grind
   |false=>
    refine .inl ⟨(),by rfl,?_⟩;rw[Aj hi,Ao,Bi]
    grind)
  (λ_ hs=>⟨.inl (),by simp only[MV,Dy],.inr ⟨rfl,by grind⟩⟩) (s:=()) (by simp)
 grind
theorem W3 {r:Int} (a:Arena) (ha:a.Knots.length<=1048000) (hK:CL a.Knots=true) (hr:D4 a.Knots r=true):∃l,PZ a r=some l/\l.length<=5/\∀i:Nat,(i:Int)∈l↔OJ a.Knots r i=true:=by
 unfold PZ;rw[SJ a<|by omega]
 rcases BY hr with rfl|⟨h0,h1,hl⟩
 ·exact⟨[],rfl,by simp,λi=>by simp[OJ]⟩
 rw[Ac ⟨h0,h1⟩,hl,Ic h0 h1];simp only[Ck,Qw,An,Ad,Aa];obtain⟨h4,hk⟩:=FB hK h0 h1;obtain⟨l,q1,q2,q3⟩:=AG (body:=λs:List Int×Int=>KV a (B8 a.Knots r) s.1 s.2) (λ(o:List Int) i=>(o,i)) (B8 a.Knots r).Kids.length
  (λi o=>o.length<=1+i/\∀n:Nat,(n:Int)∈o↔(r=(n:Int)\/(n:Int)∈(B8 a.Knots r).Kids.take i)) (λo=>o.length<=5/\∀n:Nat,(n:Int)∈o↔(r=(n:Int)\/(n:Int)∈(B8 a.Knots r).Kids))
  (λo i hi ho=>by
   have hx:=Ab hi;have et:(B8 a.Knots r).Kids.take (i+1)=(B8 a.Knots r).Kids.take i++ [(B8 a.Knots r).Kids[i]]:=Aj hi;refine .inl ?_;simp only[KV,DH hi,Au,hx,Aa];rw[Xz,Bj,Cp,ad1];simp only[Aa];have b:(B8 a.Knots r).Kids[i]=MS (B8 a.Knots r) i:=by grind
   rcases Gu hK h0 h1 hl (show i<4 by omega)with e|⟨e1,e2,e3⟩
   ·grind
   rw[cT,Zx o _<|by omega];simp only[Aa]
   cases hc:o.contains (B8 a.Knots r).Kids[i]with
   |true=>
    grind
   |false=>
    rw[Bk (by simp;omega)];refine⟨_,rfl,by simp;omega,λn=>?_⟩
    grind)
  (λo ho=>⟨o,by simp only[KV,Dy],by have:=ho.1;omega,by grind⟩) (s:=[r]) ⟨by simp,λn=>by simp[eq_comm]⟩
 rw[q1];refine⟨l,rfl,q2,λi=>?_⟩;rw[q3];unfold OJ
 grind
theorem fN (hr:GE r):∃l,Al (λs:List Int×Int=>K4 r s.1 s.2) ([],0)=some l/\l.Nodup/\(∀x,x∈l↔∃y∈r,y.Page.Kind=2/\y.Page.Tx=x)/\l.length<=r.length:=by
 have a:=hr.len;obtain⟨l,h1,h2,h3,h4⟩:=AG (body:=λs:List Int×Int=>K4 r s.1 s.2) (λ(o:List Int) i=>(o,i)) r.length (λi o=>o.Nodup/\(∀x,x∈o↔∃y∈r.take i,y.Page.Kind=2/\y.Page.Tx=x)/\o.length<=i) (λo=>o.Nodup/\(∀x,x∈o↔∃y∈r,y.Page.Kind=2/\y.Page.Tx=x)/\o.length<=r.length)
  (λo i hi ho=>by
   have hx:=Ab hi;have et:r.take (i+1)=r.take i++ [r[i]]:=by simp
   refine .inl ?_;simp only[K4,DH hi,Au,hx,Aa];rw[ad1,Zx o _<|by omega]
   cases hk:(r[i].Page.Kind==2)with
   |false=>grind
   |true=>
    cases hc:o.contains r[i].Page.Tx with
    |true=>grind
    |false=>
     rw[Bk<|by grind];refine⟨_,rfl,?_,λx=>?_,by simp;omega⟩
     ·grind
     grind)
  (λo ho=>⟨o,by simp only[K4,Dy],by grind⟩) (s:=[]) ⟨CV,by simp,by simp⟩
 grind
theorem yZ (hr:GE r) (h1:l.Nodup) (h2:∀x,x∈l↔∃y∈r,y.Page.Kind=2/\y.Page.Tx=x):So l=Dx r:=by
 obtain⟨n1,n2,n3⟩:=GV r λy hy=>(hr.tx y hy).1;refine WJ ?_ n1 λx=>?_
 ·have hs:(So l).Pairwise λx y=>x<=y:=by
   have:=List.pairwise_mergeSort (le:=λx y:Int=>decide<|x<=y) (λa b c h1 h2=>by simp at*;omega) (λa b=>by simp;omega) l;unfold So
   grind
  have hd:(So l).Nodup:=by
   unfold So;exact(List.mergeSort_perm l _).nodup_iff.2 h1
  unfold asc;exact(hs.and hd).imp (λh=>by omega)
 rw[n2,<-h2];unfold So;simp
theorem iA (t:ByteArray) (ht:(L t).length<=20000):∀(n a:Nat) (c:List Cx),(L t).length-a<=n->a<=(L t).length->c.length<=a->Al (λs:List Cx×Int=>M0 t s.1 s.2) (c,(a:Int))=Al (λs:List Cx×ByteArray×Int×Bool=>E5 t s.1 s.2.1 s.2.2.1 s.2.2.2) (c,t,(a:Int),false)
 |n,a,c,hn,ha,ho=>by
  rw[Ax,Ax];simp only[E5,M0];rw[B4];by_cases d:a<(L t).length
  ·rw[Ac (by omega:(a:Int)<((L t).length:Int))];rw[EZ t d,ad1];obtain⟨r1,a1,a2,a3⟩:=IT t ((a+1:Nat):Int) (by omega) ⟨by omega,by omega⟩;have f:oI r1.2.1:=by
    rcases a3 with⟨_,_,e⟩|⟨_,_,b,_,_,e,_,_,e2,_⟩
    ·rw[e];exact⟨by omega,by omega⟩
    rw[e];exact⟨by omega,by omega⟩
   obtain⟨r2,b1,b2,b3⟩:=IT t r1.2.1 (by omega) f;rw[a2,Aa,b2];have l1:Dh (Ev.mk t ((a+1:Nat):Int) false)=some (if r1.2.2=true then(r1.1,Ev.mk t r1.2.1 false)else(0,Ev.mk t ((a+1:Nat):Int) true)):=by
    unfold Dh
    grind
   rw[l1]
   cases h1:r1.2.2 with
   |false=>
    have l2:Dh (Ev.mk t ((a+1:Nat):Int) true)=some (0,Ev.mk t ((a+1:Nat):Int) true):=by
     unfold Dh
     grind
    grind
   |true=>
    simp only[Cf,Aa,An,Ad];have l2:Dh (Ev.mk t r1.2.1 false)=some (if r2.2.2=true then(r2.1,Ev.mk t r2.2.1 false)else(0,Ev.mk t r1.2.1 true)):=by
     unfold Dh
     grind
    rw[l2]
    cases h2:r2.2.2 with
    |false=>rfl
    |true=>
     simp only[Cf,Aa,An,Ad];obtain⟨v,c1,c2,_⟩:=dN<|Cx.mk (qu (IntKind.i64.wrap ((L t)[a].toNat:Int)) 16) (Int.tmod (IntKind.i64.wrap ((L t)[a].toNat:Int)) 16) r1.1 r2.1;rw[c1,c2];simp only[Aa]
     cases v with
     |false=>rfl
     |true=>
      rw[Bk (by simp;omega)]
      rcases b3 with⟨e,_⟩|⟨_,aa,b,m,k1,k2,k3,k4,k5,_⟩
      ·rw[h2]at e;cases e
      rcases a3 with⟨e,_⟩|⟨_,aa',b',m',p1,p2,p3,p4,p5,_⟩
      ·rw[h1]at e;cases e
      rw[k2]
      match n,hn with
      |n+1,hn=>exact iA t ht n b _ (by omega) k5 (by simp;omega)
      |0,hn=>omega
  grind
theorem fK (t:ByteArray) (ht:(L t).length<=20000):Rl t=I1 t:=by
 have h:=iA t ht (L t).length 0 [] (by omega) (by omega) (by simp);rw[show((0:Nat):Int)=0 from rfl]at h;unfold Rl I1;rw[h]
def AFy:Page:=Page.mk 0 0 0 0 0<|bs []
theorem iQ (r:List Ap) (hl:r.length<=1048576) (t a c:Int) (h:(a=0/\c=0)\/(0<a/\0<c)):SI r t a c=some (match Tc r t a c with|some y=>(y.Page,true)|none=>(AFy,false)):=by
 have hp:∀y:Ap,(cond (y.Page.Kind==2) (cond (y.Page.Tx==t) (cond (y.Page.Part==a) (cond (c==0) (some true)<|some<|y.Page.Count==c)<|some false)<|some false) (some false):Option Bool)=some (sV t a c y):=by
  intro y;unfold sV;cases y.Page.Kind==2<;>cases y.Page.Tx==t<;>cases y.Page.Part==a<;>simp only[Ai,Ad,Bool.false_and,WR]
  rcases h with⟨rfl,rfl⟩|⟨h1,h2⟩
  ·simp
  grind
 unfold SI;obtain⟨b,h1,h2⟩:=AG (body:=λs:Int=>MU r t a c s) (λ(_:Unit) i=>i) r.length (λi _=>∀(j:Nat) x,j<i->r[j]?=some x->sV t a c x=false) (λb=>match Tc r t a c with|some y=>b= .inr (y.Page,true)|none=>b= .inl ())
  (λ_ i hi hs=>by
   have hx:=Ab hi;simp only[MU,DH hi,Au,hx,Aa];rw[hp,ad1]
   cases e:sV t a c r[i]with
   |true=>
    refine .inr ⟨_,rfl,?_⟩;unfold Tc;rw[nG r _ hs hx e]
   |false=>
    refine .inl ⟨(),by rfl,λj x hj d=>?_⟩
    grind)
  (λ_ hs=>⟨.inl (),by simp only[MU,Dy],by
   unfold Tc
   rw[yJ r _ λj x hx=>hs j x (Ae.1 hx).1 hx]⟩) (s:=()) (λj x hj=>by omega)
 rw[h1]
 cases hf:Tc r t a c with
 |none=>rw[hf]at h2;simp only at h2;rw[h2];rfl
 |some y=>grind
theorem ACb (r:List Ap) (hr:GE r) (t:Int) (v:Page×Bool) (hv:1<=v.1.Count/\v.1.Count<=9):∀(n:Nat) (a:Int) (text:ByteArray) (seq:Int),a+n=11->1<=a->a<=v.1.Count->(L text).length<=90*a.toNat->
  ∃b,Al (λs:ByteArray×Int×Int=>Mt r t v s.1 s.2.1 s.2.2) (text,seq,a)=some b/\(match parts r t n a v.1.Count (L text) seq with
   |none=>b= .inr (Tx.mk 0 0 [],false)
   |some (x,q)=>∃u,b= .inl (u,q)/\L u=x/\(L u).length<=1000)
 |0,a,text,seq,hn,h1,hc,ht=>by omega
 |n+1,a,text,seq,hn,h1,hc,ht=>by
  rw[Ax];simp only[Mt,parts];by_cases e:a<v.1.Count
  ·rw[Ac e,AH (.inr e)];rw[iQ r hr.len t a v.1.Count (.inr ⟨by omega,by omega⟩)];simp only[Aa]
   cases hf:Tc r t a v.1.Count with
   |none=>grind
   |some y=>
    simp only[An,Ad];have hy:=Tb hf;have d:=hr.text y hy.1;have c:=yA hy.2 (by omega);rw[FO text y.Page.Text (by omega),Aa,Cw,c];have es:QS a seq y=(if y.Page.Seq<seq then y.Page.Seq else seq):=by
     unfold QS;omega
    rw[es,<-DO];exact ACb r hr t v hv n (a+1) _ _ (by omega) (by omega) (by omega) (by rw[DO,Ak];omega)
  rw[Af e,AM<|by omega]
  grind
theorem mJ (r:List Ap) (hr:GE r) (t:Int):∃x ok,Rb r t=some (x,ok)/\IY r t=(if ok=true then some x else none)/\x.Recs.length<=20000:=by
 unfold Rb IY;rw[iQ r hr.len t 0 0<|.inl ⟨rfl,rfl⟩];simp only[Aa]
 have a:parts r t 11 0 0 [] 0=(match Tc r t 0 0 with
  |none=>none
  |some y=>parts r t 10 1 y.Page.Count (L y.Page.Text) y.Page.Seq):=by rfl
 rw[a]
 cases hf:Tc r t 0 0 with
 |none=>simp
 |some y=>
  simp only[An,Ad];have hy:=Tb hf;have c:=hr.text y hy.1;have hc:=hr.cnt y hy.1;obtain⟨b,h1,h2⟩:=ACb r hr t (y.Page,true) hc 10 1 y.Page.Text y.Page.Seq (by omega) (by omega) hc.1 (by omega);rw[h1];simp only[Aa]
  cases hp:parts r t 10 1 y.Page.Count (L y.Page.Text) y.Page.Seq with
  |none=>grind
  |some w=>
   obtain⟨x,q⟩:=w;rw[hp]at h2;obtain⟨u,rfl,rfl,h4⟩:=h2;simp only[Cq];obtain⟨l,ok,r1,r2,r3⟩:=dO u (by omega);rw[fK u (by omega),r1,AF1,r2];simp only[Aa]
   grind
theorem Yy (r:List Ap) (hr:GE r):SU r=some (Be r):=by
 have c:=hr.len;have a:=GV r λy hy=>(hr.tx y hy).1;obtain⟨l,l1,l2,l3,l4⟩:=fN hr;unfold SU;rw[l1];simp only[Aa];unfold VN;rw[AH (by omega),yZ hr l2 l3];simp only[Aa];obtain⟨b,h1,h2⟩:=AG (body:=λs:List Tx×Int=>Na r (Dx r) s.1 s.2) (λ(o:List Tx) i=>(o,i)) (Dx r).length (λi o=>o=((Dx r).take i).filterMap (IY r)) (λb=>b=Be r)
  (λo i hi ho=>by
   have hx:=Ab hi;have et:(Dx r).take (i+1)=(Dx r).take i++ [(Dx r)[i]]:=Aj hi;simp only[Na,DH hi,Au,hx,Aa];rw[ad1];obtain⟨z,ok,k1,k2,k3⟩:=mJ r hr (Dx r)[i];rw[k1];simp only[Aa];refine .inl ?_
   cases ok with
   |true=>
    rw[Bk<|by grind]
    grind
   |false=>grind)
  (λo ho=>⟨o,by simp only[Na,Dy],by rw[ho,Dr];rfl⟩) (s:=[]) rfl
 rw[h1,h2];rfl
theorem iY (x:Tx):SK x=some (fB x):=by
 unfold SK fB
 cases h:x.Recs with
 |nil=>rfl
 |cons q m=>
  rw[Ac (by rw[Bj,AA];omega:ln (q::m)>0),show gi (q::m) 0=some q from Au (i:=0)];rfl
theorem uY (h:Hc d r):Pn d=LF d:=by
 have hr:=h.pages;unfold Pn LF
 cases(d.Base !=sb d.Tx 1)with
 |true=>rfl
 |false=>
  rw[h.scan.s,h.scan.i];simp only[Aa];rw[Pc r hr,Yy r hr];simp only[Aa];have hb:(λs:Int=>KY d (Be r) s)=(λs:Int=>G7 d (Be r) s):=by
   funext s;simp only[KY,G7]
   cases decide (s<ln (Be r))with
   |false=>rfl
   |true=>
    cases hg:gi (Be r) s with
    |none=>rfl
    |some x=>
     simp only[Aa]
     cases(x.Num==d.Base)with
     |false=>rfl
     |true=>
      rw[iY];unfold fB
      cases hx:x.Recs with
      |nil=>rfl
      |cons q m=>
       rw[Ac (by rw[Bj,AA];omega:ln (q::m)>0),show gi (q::m) 0=some q from Au (i:=0)];rfl
  rw[hb]
theorem fV (h:Hc d r):Re d=LK d:=by
 have hn:=h.fl.n;obtain⟨live,l1,l2,l3,l4⟩:=Hv h.st;unfold LK Re;rw[h.scan.s,l1];simp only[Aa];rw[N9 r live d.Base h.scan.len l4,N9 r live 1000000000 h.scan.len l4];simp only[Aa]
 have c:∀b,live.foldl (e9 r) (r.map<|DC b)=C8 r live b:=λ_=>rfl
 rw[c,c]
 have hi:∀b:Block,K2 b=Fo b:=λ_=>rfl
 have step:∀(o:Int×Int) (i:Nat),i<d.Flash.Blocks.length->HO d o.1 o.2 (i:Int)=D9 d r (C8 r live d.Base) (C8 r live 1000000000) o.1 o.2 (i:Int)/\∃o':Int×Int,D9 d r (C8 r live d.Base) (C8 r live 1000000000) o.1 o.2 (i:Int)=some (.inl (o'.1,o'.2,((i+1:Nat):Int))):=by
  intro o i a;have hx:=Ab a;have hP:=h.fl.blk _<|Aw a;have e:L3 d.Flash.Blocks[i].Leaves<=4:=by have:=tX d.Flash.Blocks[i].Leaves;rw[hP.four]at this;exact this
  simp only[D9,HO,DH a,Au,hx,Aa];rw[aX r _ (i:Int) h.scan.len<|Kx _ _ _,aX r _ (i:Int) h.scan.len<|Kx _ _ _,hi,KO _ hP.four,ad1,(sG h l1 l2 l4 1000000000 (i:Int)).2,(sG h l1 l2 l4 d.Base (i:Int)).2];generalize cn r.length (λj=>(C8 r live d.Base)[j]?.getD false&&bk r (i:Int) j)=A;generalize cn r.length (λj=>(C8 r live 1000000000)[j]?.getD false&&bk r (i:Int) j)=C;simp only[Aa]
  cases d.Flash.Blocks[i].Bad with
  |true=>grind
  |false=>
   simp only[Ck,Ai,Ad,Aa];by_cases q:L3 d.Flash.Blocks[i].Leaves=4
   ·rw[Af (by omega:¬((L3 d.Flash.Blocks[i].Leaves:Nat):Int)<4),show(((L3 d.Flash.Blocks[i].Leaves:Nat):Int)==4)=true by simp;omega];simp only[Ai,Ad,Aa];by_cases q2:A=C
    ·subst q2;simp only[beq_self_eq_true,Ai];by_cases q3:(A:Int)>=1
     ·rw[Ac q3];simp only[Ai,Aa]
      cases decide ((A:Int)<o.2)with
      |true=>simp
      |false=>grind
     grind
    grind
   grind
 obtain⟨v,e1,e2,_⟩:=HC (body:=λs:Int×Int×Int=>D9 d r (C8 r live d.Base) (C8 r live 1000000000) s.1 s.2.1 s.2.2) (body':=λs:Int×Int×Int=>HO d s.1 s.2.1 s.2.2) (λ(o:Int×Int) i=>(o.1,o.2,i)) d.Flash.Blocks.length (λ_ _=>True) (λ_=>True)
  (λo i a _=>by
   obtain⟨a1,o',a2⟩:=step o i a
   grind)
  (λo _=>⟨by simp only[D9,HO,Dy],o.1,by simp only[D9,Dy],trivial⟩) (s:=(-1,4)) trivial
 grind
theorem f8 (h:JO d r):Rw d=LR d:=by
 obtain⟨l,d1,d2,_⟩:=f0 d<|WT h.dev;obtain⟨st,ok,b1,b2,_⟩:=sS h.dev;obtain⟨live,l1,l2,l3,l4⟩:=Hv h.dev.st
 have hm:∀b,MY d b=Hn d b:=λb=>by
  obtain⟨v,_,v2,v3,_⟩:=dU h.dev h.few l1 l2 l3 l4 b;rw[v2,v3]
 unfold Rw LR;rw[d1,d2,uY h.dev,fV h.dev,b1,b2]
 grind
theorem gF {c:Nat} {s:AO} (hc:s.Block=(c:Int)) (B:Int×List Block->Option ((Int×List Block)⊕List Block)) (hB:∀i bl,B (i,bl)=Ff s i bl):∀(n i:Nat) (bl:List Block) (x:Block),bl[c]?=some x->i+n=x.Leaves.length->x.Leaves.length<=4->(∀(k:Nat),k<i->x.Leaves[k]?=some (Leaf.mk 2 (bs [])))->
  Al B ((i:Int),bl)=some (bl.set c (Block.mk x.Bad x.Wear (List.replicate x.Leaves.length (Leaf.mk 2 (bs [])))))
 |0,i,bl,x,hx,hi,h4,hk=>by
  rw[Ax,hB];simp only[Ff,hc,Au,hx,Aa,I9];rw[cF];have e:x.Leaves=List.replicate x.Leaves.length (Leaf.mk 2 (bs [])):=by
   apply BN
   grind
  rw[<-e];have:bl.set c x=bl:=by
   apply BN
   grind
  cases x
  grind
 |n+1,i,bl,x,hx,hi,h4,hk=>by
  have a:i<x.Leaves.length:=by omega
  have hl:=Ab a;rw[Ax,hB];simp only[Ff,hc,Au,hx,Aa,DH a,hl,D1];rw[ad1];have:=gF (s:=s) hc B hB n (i+1) (bl.set c<|Block.mk x.Bad x.Wear<|x.Leaves.set i<|Leaf.mk 2<|bs []) (Block.mk x.Bad x.Wear<|x.Leaves.set i<|Leaf.mk 2<|bs []) (by grind) (by simp;omega) (by simpa using h4) (λk b=>by grind);rw[this];simp
theorem AEG {s:AO} (h:Bu f) (hs:Q4 f s):∃g,NR f s=some (g,true)/\AAN f s g:=by
 have hd:J4 f s=some (KD f s,true):=by
  rcases QF h s with⟨_,e⟩|⟨e,_⟩
  ·exact e
  exact absurd hs e
 unfold NR;rw[hd,C9 f h.cap];simp only[Aa,An,Ad]
 rcases hs with⟨k1,hm⟩|⟨k1,hc⟩
 ·rw[show(s.Kind==1)=true by simpa using k1];simp only[Ai];obtain⟨_,_,A,B,e1,_,e2⟩:=QP h hm;obtain⟨x,x1,x2,x3,x4,x5,x6⟩:=hm;have hP:=h.blk x<|Ar (Cg x1).2;rw[x1];simp only[Aa];have hq:qu (FJ s.Text) 2=(((L s.Text).length/2:Nat):Int):=by
   rw[B4];unfold qu;rw[show Int.tdiv ((L s.Text).length:Int) 2=(((L s.Text).length/2:Nat):Int)from(Int.ofNat_tdiv _ 2).symm];exact OH (by omega)<|by omega
  rw[hq,show sub s.Text 0 (((L s.Text).length/2:Nat):Int)=sub s.Text ((0:Nat):Int) (((L s.Text).length/2:Nat):Int)from rfl,Fc s.Text (Jt _)<|by omega];simp only[Aa];have hx:gi x.Leaves s.Leaf=some (x.Leaves[L3 x.Leaves]'(by rw[hP.four];exact x4)):=by
   rw[x3,Au];grind
  rw[hx];simp only[Aa];refine⟨_,rfl,?_,λn hw=>j7 hw<|hw x<|Ar (Cg x1).2,.inl ⟨k1,?_⟩⟩
  ·obtain⟨b0,b1⟩:=Cg x1;obtain⟨c,a⟩:∃c:Nat,s.Block=(c:Int):=⟨_,(AQ b0).symm⟩;rw[a,x3,D1,D1];refine Nd h (Vj hP rfl x4 (.inr<|.inr ⟨rfl,?_⟩)<|by simp);show(L<|s.Text.extract 0<|(L s.Text).length/2).length<=120;have:(L<|s.Text.extract 0<|(L s.Text).length/2).length<=(L s.Text).length:=by
    rw[Ie];simp;omega
   omega
  have:=e2<|s.Text.extract 0<|(L s.Text).length/2;unfold Uq at this
  grind
 rw[show(s.Kind==1)=false by simp;omega];simp only[Ad];obtain⟨x,x1,x2,x3⟩:=hc;obtain⟨b0,b1⟩:=Cg x1;obtain⟨c,a⟩:∃c:Nat,s.Block=(c:Int):=⟨_,(AQ b0).symm⟩;rw[a,AU]at b1;have hP:=h.blk x<|Ar b1;have hl:=gF (s:=s) a (λq:Int×List Block=>Ff s q.1 q.2) (λ_ _=>rfl) x.Leaves.length 0 f.Blocks x b1 (by omega) (by rw[hP.four];omega) (λk hk=>by omega);rw[show((0:Nat):Int)=0 from rfl]at hl;rw[hl];refine⟨_,rfl,?_,λn hw y hy=>?_,.inr ⟨k1,?_⟩⟩
 ·refine Nd h ⟨by simp[hP.four],hP.wear,λy hy=>?_,λk y z hy hz h0=>?_⟩
  ·rw[Dt hy];exact .inr<|.inr ⟨rfl,by rw[Em];simp⟩
  grind
 ·rcases CI hy with hy|rfl
  ·exact hw y hy
  exact hw x<|Ar b1
 rw[a];exact Yq b1<|Wr _ _ _ λy hy=>by grind
theorem vT {ss:List AO} (hf:Bu f) (hk:k<=ss.length) (hl:ss.length<=1000000) (h:∃m,Steps f ss m) (torn:Bool):∃g,I4 f ss (k:Int) torn=some (g,true)/\Bu g/\Y5 f ss k g:=by
 obtain⟨z,hz⟩:=h;rw[<-BS k ss]at hz;obtain⟨m,h1,h2⟩:=(HT _ _ _ _).1 hz;have hm:=Uf hf h1;unfold I4;rw[Bj,Dk];simp only[Aa];rw[Ac (by omega:0<=(k:Int)/\(k:Int)<=(ss.length:Int))];have b:dr ss 0 (k:Int)=some (ss.take k):=by
  unfold dr
  grind
 have a:(ss.take k).length=k:=by grind
 rw[b];simp only[Aa];rw[Kw hf h1 (by omega),a];simp only[Aa];rw[Af (by omega:¬(k:Int)<(k:Int))]
 cases torn with
 |false=>exact⟨m,rfl,hm,m,h1,.inl rfl⟩
 |true=>
  simp only[An,Ad,Aa];by_cases e:k=ss.length
  ·rw[show((k:Int)==(ss.length:Int))=true by simp;omega];exact⟨m,rfl,hm,m,h1,.inl rfl⟩
  rw[show((k:Int)==(ss.length:Int))=false by simp;omega];have hx:=Ab (show k<ss.length by omega);rw[AI<|show k<ss.length by omega]at h2;rw[Au,hx];simp only[Aa];obtain⟨g,g1,g2⟩:=AEG hm h2.1;rw[g1];exact⟨g,rfl,g2.1,m,h1,.inr ⟨_,hx,h2.1,g2⟩⟩
theorem aF (h:Hc d r) (vol k:Int):Ou d vol k=(Fu r d.Store vol k):=by
 unfold Ou;rw[h.scan.s];simp only[Aa];cases Fu r d.Store vol k<;>rfl
noncomputable def Uo (r:List Ap) (c:Int):ByteArray:=if 0<c then(Cb r c).getD (bs [])else bs []
noncomputable def FN (r:List Ap) (p:Int×List Int):Shelf:=Shelf.mk p.1 ((List.range 16).map λk=>Uo r (p.2[k]?.getD 0))
noncomputable def JU (r:List Ap) (l:Vs):List Shelf:=l.map (FN r)
theorem ABm (h:JO d r) (hv:v∈d.Store.Vols) (hk:k<16):Fu r d.Store v.Id (k:Int)=some (Uo r ((ED d.Store.Arena.Knots v.Root)[k]?.getD 0),true):=by
 have hg:=Mb h.dev.st.asc hv
 rcases Yc h v.Id hk with⟨a,_⟩|⟨f,c,a,b,_,e⟩
 ·rw[hg]at a;cases a
 rw[hg]at a
 injection a with a
 subst a;unfold Uo
 grind
theorem xJ (h:JO d r):EV d=some (JU r (AL d.Store))/\HE d=some (JU r (AL d.Store)):=by
 have c:=h.dev.st.len;have hs:EV d=some (JU r<|AL d.Store):=by
  unfold EV;rw[h.dev.scan.s];simp only[Aa];obtain⟨b,h1,rfl⟩:=AG (body:=λs:List Shelf×Int=>Di d r s.1 s.2) (λ(o:List Shelf) i=>(o,i)) d.Store.Vols.length (λi o=>o=JU r ((AL d.Store).take i)) (λo=>o=JU r (AL d.Store))
   (λo i hi ho=>by
    have hg:d.Store.Vols[i]?=some d.Store.Vols[i]:=Ab hi;simp only[Di,DH hi,Au,hg,Aa];have:=SD (body:=λs:Int×List ByteArray=>Eu d r d.Store.Vols[i] s.1 s.2) (List.range 16) (λk=>Uo r<|(ED d.Store.Arena.Knots d.Store.Vols[i].Root)[k]?.getD 0)
     (λk x a hx ho=>by
      obtain⟨hk,hx⟩:=Ae.1 hx;rw[DR]at hk;rw[List.getElem_range]at hx;subst hx;simp only[Eu];rw[cT,ABm h (Aw hi) hk,Aa,Bk (by grind),ad1]
      rfl)
     (λa=>by rfl)
    rw[this,Aa,Bk (by rw[ho];unfold JU;simp;omega),ad1];have hl:i<(AL d.Store).length:=by unfold AL;simpa using hi
    rw[ho,Aj hl];unfold JU
    simp[AL,FN])
   (λo ho=>⟨o,by simp only[Di,Dy],by
    rw[ho,AK (by unfold AL;simp)]⟩) (s:=[]) rfl
  rw[h1];rfl
 obtain⟨m,m1,m2⟩:=XL d<|WT h.dev
 grind
theorem iS {l:Vs} (h:∀c,DJ l c->Cb r' c=Cb r c):JU r' l=JU r l:=by
 refine CR λp hp=>BK (Shelf.mk p.1)<|CR λk _=>?_
 unfold Uo;split
 ·rename_i hc;rw[h _ ⟨hc,p,hp,?_⟩]
  grind
 rfl
theorem iR (h:Hc d r):UT (JU r (AL d.Store)):=by
 have:=h.st.len;refine⟨by unfold JU AL;simp;omega,λx hx=>?_⟩;obtain⟨p,_,rfl⟩:=A5.1 hx;simp[FN]
theorem mP (a:Arena) (ha:a.Knots.length<=1048000) (hK:CL a.Knots=true) (R:List Int) (hc:R.length<=1000) (hR:∀r∈R,D4 a.Knots r=true) (v:List Int):∃l,Al (λs:List Int×Int=>Gd a R v s.1 s.2) ([],0)=some (.inl l)/\l.length<=5000/\∀i:Nat,(i:Int)∈l↔CD a.Knots R i=true:=by
 obtain⟨b,h1,l,rfl,h3,h4⟩:=AG (body:=λs:List Int×Int=>Gd a R v s.1 s.2) (λ(o:List Int) i=>(o,i)) R.length (λi o=>o.length<=5*i/\∀n:Nat,(n:Int)∈o↔CD a.Knots (R.take i) n=true) (λb=>∃l,b= .inl l/\l.length<=5000/\∀i:Nat,(i:Int)∈l↔CD a.Knots R i=true)
  (λo i hi ho=>by
   obtain⟨o1,o2⟩:=ho;have hx:=Ab hi;have hr:=hR _<|Aw hi;obtain⟨m,m1,m2,m3⟩:=W3 a ha hK hr;simp only[Gd,DH hi,Au,hx,Aa];rw[pY (by omega) hr];simp only[Aa,Ad];rw[m1,Aa,Bk (by omega),ad1];refine .inl ⟨o++m,rfl,by simp;omega,λn=>?_⟩;rw[Ao,o2,m3];unfold CD
   rw[VG hx,CT])
  (λo ho=>⟨_,by simp only[Gd,Dy],o,rfl,by have:=ho.1;omega,by grind⟩) (s:=[]) ⟨by simp,λn=>by simp[CD]⟩
 grind
theorem fE (a:Arena) (ha:a.Knots.length<=1048000) (hK:CL a.Knots=true) (R:List Int) (hR:∀r∈R,D4 a.Knots r=true) (l:List Int) (h5:l.length<=5000) (hl:∀i:Nat,(i:Int)∈l↔CD a.Knots R i=true):
  Al (λs:List Int×Int×List Bq=>Gc a l s.1 s.2.1 s.2.2) (List.replicate a.Knots.length 0,0,[])=some (Vg a.Knots R a.Knots.length,Vy a.Knots R):=by
 have h:∀i:Nat,l.contains (i:Int)=CD a.Knots R i:=λi=>by grind
 obtain⟨b,h1,h2⟩:=AG (body:=λs:List Int×Int×List Bq=>Gc a l s.1 s.2.1 s.2.2) (λ(o:List Int×List Bq) i=>(o.1,i,o.2)) a.Knots.length
  (λi o=>o=(Vg a.Knots R i,((List.range i).filter<|CD a.Knots R).map<|Zg a.Knots R)) (λb=>b=(Vg a.Knots R a.Knots.length,Vy a.Knots R))
  (λo i hi ho=>by
   subst ho;have h0:(0:Int)<=(i:Int):=by omega
   have f:(i:Int)<(a.Knots.length:Int):=by omega
   simp only[Gc,DH hi];rw[Ic h0 f,Zx l _ (by omega),h];simp only[Aa]
   cases hu:CD a.Knots R i with
   |false=>
    rw[ad1];refine .inl ⟨(Vg a.Knots R i,((List.range i).filter<|CD a.Knots R).map<|Zg a.Knots R),rfl,?_⟩;congr 1
    ·unfold Vg
     grind
    rw[Ek,AS,CX (by rw[hu];simp)];simp
   |true=>
    obtain⟨h4,hk⟩:=FB hK h0 f;have t:gi (Vg a.Knots R i) (i:Int)=some 0:=by
     unfold Vg;rw[Au,HM hi,AM<|by omega]
    rw[t,Nf<|by omega];simp only[Aa];have h3:=AEj (K:=a.Knots) (R:=R) i;have m:(((List.range i).filter<|CD a.Knots R).map<|Zg a.Knots R).length=eZ a.Knots R i:=by rw[Bs];rfl
    have d:si (Vg a.Knots R i) (i:Int) (ln<|((List.range i).filter<|CD a.Knots R).map<|Zg a.Knots R)=Vg a.Knots R (i+1):=by
     rw[Bj,m,D1];unfold Vg;apply PQ;intro j hj;by_cases e:j=i
     ·grind
     grind
    have inner:Al (λs:Int×List Int=>Gb (Vg a.Knots R i) (i:Int) (((List.range i).filter<|CD a.Knots R).map<|Zg a.Knots R) (B8 a.Knots (i:Int)) s.1 s.2) (0,(B8 a.Knots (i:Int)).Kids)=some (Zg a.Knots R i).Kids:=by
     have q:=O3 (body:=λs:Int×List Int=>Gb (Vg a.Knots R i) (i:Int) (((List.range i).filter<|CD a.Knots R).map<|Zg a.Knots R) (B8 a.Knots (i:Int)) s.1 s.2) (λl k=>(k,l)) (λ_ x=>bif(B8 a.Knots (i:Int)).Leaf then x else PE a.Knots R x) (B8 a.Knots (i:Int)).Kids
      (λk l x u v g=>by
       have w:=(Ae.1 g).1;have y:k<4:=by omega
       have ex:x=MS (B8 a.Knots (i:Int)) k:=by grind
       have same:l.set k x=l:=by
        apply BN;intro j
        grind
       simp only[Gb,DH w,Au,g,Aa];rw[d]
       cases n:(B8 a.Knots (i:Int)).Leaf with
       |true=>
        simp only[An,Ad,Ai,Aa];rw[same,ad1]
       |false=>
        simp only[Ck,Ai,Ad,Aa]
        rcases Gu hK h0 f n y with e|⟨e1,e2,e3⟩
        ·rw[cF,ad1];have:PE a.Knots R x=x:=by unfold PE;omega
         rw[this,same]
        obtain⟨c,hc⟩:∃c:Nat,x=(c:Int):=⟨x.toNat,by omega⟩;have z:x∈(B8 a.Knots (i:Int)).Kids:=Ar g;have p:=VA (ZI hK hR hu n) h0 z (by omega);rw[hc]at p;rw[hc,Au];unfold Vg;rw[HM (by omega),Aa,AH ⟨by omega,p⟩,v,Aa,D1,ad1]
        rfl)
      (λl u=>by simp only[Gb,Dy])
     rw[Jg]at q;rw[q];unfold Zg
     cases(B8 a.Knots (i:Int)).Leaf with
     |true=>simp
     |false=>rfl
    rw[inner,Aa,Bk (by rw[m];simp;omega),Aa,ad1,d];refine .inl ⟨(_,_),rfl,?_⟩;congr 1;rw[Ek,AS,CW hu,Nv,BT]
    rfl)
  (λo ho=>⟨o,by simp only[Gc,Dy],ho⟩) (s:=(List.replicate a.Knots.length 0,[])) (by
   unfold Vg;simp only[Nat.not_lt_zero,false_and,Ke];rw[Nu,DR]
   rfl)
 rw[<-h2];exact h1
theorem uG (a:Arena) (ha:a.Knots.length<=1048000) (hK:CL a.Knots=true) (R:List Int) (hc:R.length<=1000) (hR:∀r∈R,D4 a.Knots r=true):NC a R=some (Arena.mk (Vy a.Knots R),R.map (PE a.Knots R)):=by
 unfold NC;rw[Nf<|by omega];simp only[Aa];obtain⟨l,l1,l2,l3⟩:=mP a ha hK R hc hR R;rw[l1,Rz a (by omega),hK];simp only[Aa,Cq,An,Ad];rw[Bj,bG (by omega) (by omega),Aa,fE a ha hK R hR l l2 l3];simp only[Aa];have q:=O3 (body:=λs:List Int×Int=>HD R (Vg a.Knots R a.Knots.length,Vy a.Knots R) s.1 s.2) (λl k=>(l,k)) (λ_ x=>PE a.Knots R x) R
  (λk l x g h b=>by
   have hk:=(Ae.1 b).1;simp only[HD,DH hk,Au,b,Aa]
   rcases BY (hR x<|Ar b)with e|⟨e1,e2,e3⟩
   ·rw[cF,ad1];have:PE a.Knots R x=x:=by unfold PE;omega
    rw[this,show l.set k x=l from by
     apply BN
     grind]
   rw[cT];obtain⟨c,d⟩:∃c:Nat,x=(c:Int):=⟨x.toNat,by omega⟩;have f:=PH (K:=a.Knots) (Ar b) e1;rw[d]at f;rw[d,Au];unfold Vg;rw[HM (by omega),Aa,AH ⟨by omega,f⟩,h,Aa,D1,ad1]
   rfl)
  (λl g=>by simp only[HD,Dy])
 rw[Jg]at q;rw[q];rfl
theorem O6 (h:StoreR s):Mz s=some (L8 s):=by
 have hl:=h.len;have hf:=h.few;have e:(Bt s).length=s.Vols.length:=by unfold Bt;rw[Bs]
 unfold Mz;have hr:Al (λq:List Int×Int=>Fx s q.1 q.2) ([],0)=some (Bt s):=by
  obtain⟨b,h1,h2⟩:=AG (body:=λq:List Int×Int=>Fx s q.1 q.2) (λ(o:List Int) i=>(o,i)) s.Vols.length (λi o=>o=(s.Vols.take i).map Vol.Root) (λb=>b=Bt s)
   (λo i hi ho=>by
    have hx:=Ab hi;simp only[Fx,DH hi,Au,hx,Aa];rw[Bk (by rw[ho];simp;omega)];rw[ad1]
    exact .inl ⟨_,rfl,by rw[ho,DQ,hx,BT];rfl⟩)
   (λo ho=>⟨o,by simp only[Fx,Dy],by rw[ho,AK<|Az _];rfl⟩) (s:=[]) rfl
  rw[<-h2];exact h1
 rw[hr];simp only[Aa];rw[uG _ (by omega) h.ar _ (by omega) h.root];simp only[Aa];have q:=O3 (body:=λq:Int×List Vol=>GZ s (Arena.mk<|Vy s.Arena.Knots<|Bt s,(Bt s).map<|PE s.Arena.Knots<|Bt s) q.1 q.2) (λl i=>(i,l)) (λ_ v=>Vol.mk v.Id<|PE s.Arena.Knots (Bt s) v.Root) s.Vols
  (λi l x a c d=>by
   have hi:=(Ae.1 d).1;simp only[GZ,DH hi];have:gi ((Bt s).map<|PE s.Arena.Knots<|Bt s) (i:Int)=some (PE s.Arena.Knots (Bt s) x.Root):=by
    rw[Au,BX];unfold Bt
    grind
   rw[this,Au,c];simp only[Aa]
   rw[D1,ad1])
  (λl a=>by simp only[GZ,Dy])
 rw[Jg]at q;rw[q];rfl
theorem ABU {R:List Int} {i:Nat} {n:Int} (hK:CL K=true) (hR:∀r∈R,D4 K r=true) (hi:i<K.length) (hu:CD K R i=true) (hl:(B8 K (i:Int)).Leaf=true) (hn:n∈(B8 K (i:Int)).Kids):∃r∈R,n∈ED K r:=by
 unfold CD at hu;obtain⟨r,hr,h⟩:=Du.1 hu;unfold OJ at h;rw[Ag,A6,CT,A6,Du]at h;obtain⟨h0,h⟩:=h
 rcases BY (hR r hr)with e|⟨_,h1,h2⟩
 ·omega
 rcases h with h|⟨x,hx,he⟩
 ·grind
 obtain⟨h4,hk⟩:=FB hK h0 h1;obtain⟨j,hj,c⟩:=A4 hx;have a:MS (B8 K r) j=(i:Int):=by grind
 obtain⟨g4,gk⟩:=FB hK (r:=(i:Int)) (by omega) (by omega);obtain⟨t,ht,d⟩:=A4 hn;have b:MS (B8 K (i:Int)) t=n:=by grind
 refine⟨r,hr,A5.2 ⟨4*j+t,by simp;omega,?_⟩⟩;unfold RR;rw[AM (by omega),show(4*j+t)/4=j by omega,show(4*j+t) %4=t by omega,a,AM (by omega),b]
theorem Yx (h:C3 s):Qc s=some true:=by
 have hl:=h.len;have hf:=h.few;unfold Qc;rw[Bj,cF,Rz _ (by omega),h.ar,Xz,Ac h.nx];obtain⟨b,h1,l,rfl,h3,h4⟩:=AG (body:=λq:List Int×Int=>Lf s q.1 q.2) (λ(o:List Int) i=>(o,i)) s.Vols.length (λi o=>o.length<=5*i/\∀n:Nat,(n:Int)∈o↔CD s.Arena.Knots ((Bt s).take i) n=true) (λb=>∃l,b= .inl l/\l.length<=5000/\∀i:Nat,(i:Int)∈l↔CD s.Arena.Knots (Bt s) i=true)
  (λo i hi ho=>by
   obtain⟨o1,o2⟩:=ho;have hx:=Ab hi;have hm:s.Vols[i]∈s.Vols:=Aw hi;have a:s.Vols[i].Root∈Bt s:=A5.2 ⟨_,hm,rfl⟩;have hr:=h.root _ a;have e:(Bt s)[i]?=some s.Vols[i].Root:=by unfold Bt;grind
   obtain⟨m,m1,m2,m3⟩:=W3 s.Arena (by omega) h.ar hr;simp only[Lf,DH hi,Au,hx,Aa];rw[Xz,Ac<|h.ids _ hm,pY (by omega) hr];have hj:(cond (decide<|(i:Int)>0) ((gi s.Vols<|sb (i:Int) 1).bind λx2=>cond (decide<|x2.Id>=s.Vols[i].Id) (some true)<|some false) (some false):Option Bool)=some false:=by
    by_cases h0:i=0
    ·rw[cF]
    rw[cT,Cp,show(i:Int)-1=((i-1:Nat):Int) by omega,Au,Ab<|by omega];simp only[Aa];have:=S8 h.asc (show i-1<i by omega) (x:=s.Vols[i-1].Id) (y:=s.Vols[i].Id) (by grind) (by grind);rw[cF]
   rw[hj];simp only[Aa,Ad];rw[m1,Aa,Bk (by omega),ad1];refine .inl ⟨o++m,rfl,by simp;omega,λn=>?_⟩;rw[Ao,o2,m3];unfold CD
   rw[VG e,CT])
  (λo ho=>⟨_,by simp only[Lf,Dy],o,rfl,by have:=ho.1;omega,by
   have:=ho.2;rw[AK (by unfold Bt;grind)]at this
   exact this⟩) (s:=[]) ⟨by simp,λn=>by simp[CD]⟩
 rw[h1];simp only[Aa,Cq];obtain⟨c,q1,q2⟩:=AG (body:=λq:Int=>Le s l q) (λ(_:Unit) i=>i) s.Arena.Knots.length (λ_ _=>True) (λc=>c= .inl ())
  (λ_ i hi _=>by
   have hu:=h.used i hi;simp only[Le,DH hi];rw[Ic (by omega) (by omega),Zx l _ (by omega),List.contains_iff_mem.2<|(h4 i).2 hu];simp only[Aa,An,Ad];obtain⟨d,e1,e2⟩:=AG (body:=λq:Int=>Ld s (B8 s.Arena.Knots (i:Int)) q) (λ(_:Unit) i=>i) (B8 s.Arena.Knots (i:Int)).Kids.length (λ_ _=>True) (λc=>c= .inl ())
    (λ_ k hk _=>by
     have hx:=Ab hk;have h44:=(FB h.ar (r:=(i:Int)) (by omega)<|by omega).1;simp only[Ld,DH hk,Au,hx,Aa];rw[ad1]
     cases f:(B8 s.Arena.Knots (i:Int)).Leaf with
     |false=>simp
     |true=>
      obtain⟨r,r1,r2⟩:=ABU h.ar h.root hi hu f<|Aw hk;have:=h.lt r r1 _ r2;rw[Af<|by omega]
      simp)
    (λ_ _=>⟨_,by simp only[Ld,Dy],rfl⟩) (s:=()) trivial
   rw[e1,e2];rw[ad1]
   simp)
  (λ_ _=>⟨_,by simp only[Le,Dy],rfl⟩) (s:=()) trivial
 rw[q1,q2];rfl
def AB5 (l:List Vol) (v:Vol):List Vol:=(l.filter λw=>decide<|w.Id<v.Id)++ [v]++l.filter λw=>decide<|w.Id>v.Id
theorem AA1 {l:List Vol} (h:(l.map Vol.Id).Pairwise (·<·)) (hv:∀w∈l,w.Id≠v.Id) (hl:l.length<=3):LB (NW Bn) (l++ [v])=some (AB5 l v):=by
 have hk:∀x,Bn x=x.Id:=λ_=>rfl
 obtain⟨r,h1,h2,h3⟩:=gR Bn (l++ [v]) (by simp;omega);have hs:srt Bn (AB5 l v):=by
  have:=ZW h v;rw[K9]at this
  exact this.imp λhh=>by rw[hk,hk];omega
 have:r=AB5 l v:=by
  refine Oh _ h2 hs λk=>?_
  rw[h3 k];unfold AB5;rw[AS,AS,AS,Er,Er]
  rcases Int.lt_trichotomy k v.Id with e|e|e
  ·have e2:l.filter (λa=>(Bn a==k)&&decide (a.Id>v.Id))=[]:=by
    rw[Bp];grind
   grind
  ·have e0:l.filter (λa=>Bn a==k)=[]:=by
    rw[Bp];grind
   have e2:l.filter (λa=>(Bn a==k)&&decide (a.Id>v.Id))=[]:=by
    rw[Bp];grind
   grind
  have e2:l.filter (λa=>(Bn a==k)&&decide (a.Id<v.Id))=[]:=by
   rw[Bp];grind
  grind
 rw[h1,this]
theorem mC {r:Cx} {q:Int} (h:C3 s) (hn:Dg s r.Vol=some (-1)) (hv:∀v∈s.Vols,v.Id≠r.Vol) (h3:s.Vols.length≠3) (hq:(cond (decide (r.Arg>0)) ((Dg s r.Arg).bind λv1=>cond (decide (v1<0)) ((Ee s).bind λv2=>some (.inr (v2,false))) ((gi s.Vols v1).bind λx1=>some (.inl x1.Root))) (some (.inl (-1))):Option (Int⊕(Store×Bool)))=some (.inl q)):Gm s r=some (Store.mk (AB5 s.Vols (Vol.mk r.Vol q)) s.Arena s.Next,true):=by
 have hl:=h.len;have c:=Lp h.ar (by have:=h.few;omega);have a:=Gp s c (by omega);unfold Gm;rw[hq,hn];simp only[Aa,Cq];rw[cF,Bj,show((s.Vols.length:Int)==3)=false by simp;omega];rw[a];have k1:=TF (body:=λq:List Vol×Int=>Hl s r q.1 q.2) s.Vols (λv=>decide<|v.Id<r.Vol) [] (by simp;omega)
  (λi v b hv ho=>by
   have hi:=(Ae.1 hv).1;simp only[Hl,DH hi,Au,hv,Aa];rw[ad1]
   cases decide (v.Id<r.Vol)with
   |true=>rw[Bk (by simp;omega)];rfl
   |false=>rfl)
  (λb=>by simp only[Hl,Dy])
 rw[A3]at k1;rw[k1];simp only[Aa];have d:=gQ s.Vols r.Vol;rw[Bk (by simp;omega)];simp only[Aa];have k2:=TF (body:=λq:List Vol×Int=>Hk s r q.1 q.2) s.Vols (λv=>decide<|v.Id>r.Vol) ((s.Vols.filter λv=>decide<|v.Id<r.Vol)++ [Vol.mk r.Vol q]) (by simp;omega)
  (λi v b hv ho=>by
   have hi:=(Ae.1 hv).1;simp only[Hk,DH hi,Au,hv,Aa];rw[ad1]
   cases decide (v.Id>r.Vol)with
   |true=>rw[Bk (by simp;omega)];rfl
   |false=>rfl)
  (λb=>by simp only[Hk,Dy])
 rw[k2];rfl
theorem rG {r:Cx} (h:C3 s) (hb:G9 r=true) (hk:r.Kind=2):∃t ok,Gm s r=some (t,ok)/\EL s r.Vol r.Arg=some (ok,t):=by
 have hl:=h.len;have b:=Lp h.ar (by have:=h.few;omega);have c:=Gp s b (by omega);have hr:=hb;unfold G9 at hr;rw[hk]at hr;simp at hr
 have a:∀id,JV s id=Dg s id:=λ_=>rfl
 have root:(Gm s r=some (s,false)/\EL s r.Vol r.Arg=some (false,s))\/∃q,(cond (decide<|r.Arg>0) ((Dg s r.Arg).bind λv1=>cond (decide<|v1<0) ((Ee s).bind λv2=>some<|.inr (v2,false))<|(gi s.Vols v1).bind λx1=>some<|.inl x1.Root) (some<|.inl<|-1):Option (Int⊕(Store×Bool)))=some (.inl q)/\(cond (r.Arg !=0) ((Dg s r.Arg).bind λv1=>cond (decide<|v1<0) (some<|.inr (false,s))<|(gi s.Vols v1).bind λx1=>some<|.inl x1.Root) (some<|.inl<|-1):Option (Int⊕(Bool×Store)))=some (.inl q):=by
  unfold Gm EL;by_cases h0:0<r.Arg
  ·rw[Ac (by omega:r.Arg>0),show(r.Arg !=0)=true by simp;omega,a]
   rcases DU s (by omega) r.Arg with⟨h1,h2⟩|⟨k,v,h1,h2,h3,_⟩
   ·grind
   right;rw[h1];refine⟨v.Root,?_,?_⟩
   ·simp only[Aa];rw[cF,Au,h2];rfl
   simp only[Aa];rw[cF,Au,h2];rfl
  grind
 rcases root with⟨g1,g2⟩|⟨q,g1,g2⟩
 ·grind
 rcases DU s (by omega) r.Vol with⟨h1,h2⟩|⟨k,v,h1,h2,h3,_⟩
 ·by_cases h3:s.Vols.length=3
  ·refine⟨s,false,?_,?_⟩
   ·unfold Gm;rw[g1,h1];simp only[Aa,Cq];rw[cF,Bj,h3]
    grind
   unfold EL;rw[a,a,g2,h1];simp only[Aa,Cq];rw[cF,Bj,h3];rfl
  refine⟨_,true,mC h h1 h2 h3 g1,?_⟩;unfold EL;rw[a,a,g2,h1];simp only[Aa,Cq];rw[cF,Bj,Af (by omega:¬(s.Vols.length:Int)>=3)];rw[Bk (by simp;omega)];simp only[Aa];rw[AA1 h.asc (v:=Vol.mk r.Vol q) h2 hl];rfl
 refine⟨s,false,?_,?_⟩
 ·unfold Gm
  grind
 unfold EL
 grind
theorem vR (h:C3 s) (r:Cx):Zw s r=T7 s r:=by
 have hl:=h.len;have d:=Lp h.ar (by have:=h.few;omega);have e:=Gp s d (by omega);have c:=O8 s d<|by omega
 have i:∀id,JV s id=Dg s id:=λ_=>rfl
 have f:Rk r=some (G9 r):=by
  obtain⟨v,a1,a2,_⟩:=dN r;rw[NT]at a1;rw[a2,<-a1]
 have a:=cR h r;unfold Zw;rw[c,Yx h,f];simp only[Aa,An,Ad]
 cases hb:G9 r with
 |false=>
  unfold Ms Dd at a
  grind
 |true=>
  simp only[An,Ad];have hr:=hb;unfold G9 at hr;unfold T7 at a⊢;rw[Sw h,NT,hb]at a⊢;simp only[Aa,An,Ad]at a⊢;unfold P6
  cases k1:(r.Kind==1)with
  |true=>
   have e1:r.Kind=1:=by simpa using k1
   rw[e1]at hr;simp at hr;simp only[Ai,Aa,An,Ad];have hj:(cond (r.Arg==0) (some 1) (some r.Arg):Option Int)=some (if 1>r.Arg then 1 else r.Arg):=by grind
   rw[hj];simp only[Aa];have hP:C3 (Store.mk [] (Arena.mk [])<|if 1>r.Arg then 1 else r.Arg):=by
    refine⟨⟨by simp,rfl,?_,by simp,by simp,by simp[Bt],by simp[Bt],by simp⟩,by simp⟩
    grind
   rw[O6 hP.toStoreR,ZO hP];rfl
  |false=>
   simp only[Ad];rw[k1]at hr a;simp only[Ad]at a
   cases k2:(r.Kind==2)with
   |true=>
    rw[k2]at a;simp only[Ai]at a⊢;obtain⟨t,ok,c1,c2⟩:=rG h hb (by simpa using k2);rw[c1]at a⊢;rw[c2];simp only[Aa]at a⊢;unfold Ms at a
    cases ok with
    |false=>grind
    |true=>
     split at a
     ·grind
     obtain⟨t',q,hP,_⟩:=a
     injection q with q
     injection q with q _
     subst q;simp only[An,Ad];have j:Store.mk t.Vols (Arena.mk t.Arena.Knots) t.Next=t:=rfl;rw[j,O6 hP.toStoreR,ZO hP];rfl
   |false=>
    simp only[Ad];rw[k2]at hr;rw[i]
    rcases DU s (by omega) r.Vol with⟨h1,h2⟩|⟨k,v,h1,h2,h3,_⟩
    ·grind
    rw[h1];simp only[Aa];rw[cF];simp only[Aa];have hm:=Ar h2;have l:=(Ae.1 h2).1
    cases hc:(r.Chunk==1000000000)with
    |true=>grind
    |false=>
     simp only[Ad];have m:r.Chunk≠1000000000:=by simpa using hc
     rw[e];simp only[Aa]
     cases k3:(r.Kind==3)with
     |true=>
      simp only[Ai];rw[Bj,ad1];have d1:dr s.Vols 0 (k:Int)=some (s.Vols.take k):=by
       unfold dr
       grind
      have d2:dr s.Vols ((k+1:Nat):Int) (s.Vols.length:Int)=some (s.Vols.drop<|k+1):=by
       unfold dr;rw[AH ⟨by omega,by omega,by omega⟩,AU,AU,AK<|by simp]
      rw[d1,d2];simp only[Aa];rw[Mj (by simp;omega)];simp only[Aa];rw[Bk (by simp;omega),PB h.asc h2,h3];simp only[Aa,An,Ad];have hR:=ACk h r.Vol;rw[Jx hR,O6 hR]
     |false=>
      simp only[Ad];rw[k3]at hr;have ha:0<=r.Arg/\r.Arg<16/\0<=r.Chunk/\r.Chunk<=1000000000:=by grind
      obtain⟨t,ht⟩:∃t:Nat,r.Arg=(t:Int):=⟨_,(AQ ha.1).symm⟩;have b:=h.root _<|A5.2 ⟨v,hm,rfl⟩;rw[Au,h2];simp only[Aa];rw[ht,aG _ (by have:=h.few;omega) h.ar b (by omega) ha.2.2.1,uI _ (by have:=h.few;omega) h.ar b (by omega) ha.2.2.1];simp only[Aa,An,Ad];rw[D1,Cw];have hR:=AEi h h2 (show t<16 by omega) ha.2.2.1 (show r.Chunk+1<=1000000000 by omega);by_cases g:r.Chunk>=s.Next
      ·rw[Ac g,AH (by omega:r.Chunk+1>s.Next)];rw[show max s.Next (r.Chunk+1)=r.Chunk+1 by omega]at hR;simp only[Ai];rw[Jx hR,O6 hR]
      rw[Af g,AM (by omega:¬r.Chunk+1>s.Next)];rw[show max s.Next (r.Chunk+1)=s.Next by omega]at hR;simp only[Ad];rw[Jx hR,O6 hR]
theorem fY (h:C3 s) (a:List Cx) (hr:a.length<=1048576):Rs s a=LQ s a:=by
 have hl:=h.len;have d:=Lp h.ar (by have:=h.few;omega);have e:=Gp s d (by omega);have c:=O8 s d (by omega);unfold Rs LQ;rw[e,c];obtain⟨b,h1,h2,_⟩:=HC (body:=λq:Int×List Vol×List Bq×Int=>E8 s a q.1 q.2.1 q.2.2.1 q.2.2.2) (body':=λq:Int×List Vol×List Bq×Int=>JE s a q.1 q.2.1 q.2.2.1 q.2.2.2) (λ(t:Store) i=>(i,t.Vols,t.Arena.Knots,t.Next)) a.length (λ_ t=>C3 t) (λ_=>True)
  (λt i hi hP=>by
   have hx:=Ab hi;have g:Store.mk t.Vols (Arena.mk t.Arena.Knots) t.Next=t:=rfl;have f:=cR hP a[i];simp only[E8,JE,DH hi,Au,hx,Aa];rw[g,vR hP];unfold Ms at f;split at f
   ·grind
   obtain⟨u,u1,u2,_⟩:=f;rw[u1];rw[ad1]
   grind)
  (λt _=>⟨by simp only[E8,JE,Dy],.inl (t.Vols,t.Arena.Knots,t.Next),by simp only[E8,Dy],trivial⟩) (s:=s) h
 grind
theorem bV (l:List Tx) (hl:l.length<=1048576) (hr:∀x∈l,x.Recs.length<=20000):Po l=some (CO l):=by
 unfold Po;obtain⟨b,h1,h2⟩:=AG (body:=λs:Int×Int=>II l s.1 s.2) (λ(o:Int) i=>(o,i)) l.length (λi o=>o=(u9 (l.take i):Int)) (λb=>b=(u9 l:Int))
  (λo i hi ho=>by
   have hx:=Ab hi;have et:l.take (i+1)=l.take i++ [l[i]]:=Aj hi;have a:(l.take i).length=i:=by grind
   simp only[II,DH hi,Au,hx,Aa];rw[ad1,iY];refine .inl ?_
   cases hb:fB l[i]with
   |true=>exact⟨(i:Int),rfl,by rw[et,RD,AH hb,a]⟩
   |false=>exact⟨o,rfl,by rw[et,RD,AM (by rw[hb];simp),ho]⟩)
  (λo ho=>⟨o,by simp only[II,Dy],by grind⟩) (s:=0) rfl
 rw[h1,h2];simp only[Aa];have d:=u7 l;have hd:dr l (u9 l:Int) (ln l)=some (CO l):=by
  unfold dr;rw[Bj,AH (by omega),AU,AU,AK<|by simp];rfl
 rw[hd];simp only[Aa];obtain⟨b1,b2⟩:=Tv l;obtain⟨c,q1,q2⟩:=AG (body:=λs:List Tx×Int=>IH (CO l) s.1 s.2) (λ(o:List Tx) i=>(o,i)) (CO l).length (λi o=>o=(CO l).take i) (λb=>b=CO l)
  (λo i hi ho=>by
   have hx:=Ab hi;have e:=hr _<|b2 _<|Aw hi;have et:(CO l).take (i+1)=(CO l).take i++ [(CO l)[i]]:=Aj hi;simp only[IH,DH hi,Au,hx,Aa];rw[Mj (by omega),Aa,Bk (by grind),Aa,ad1]
   exact .inl ⟨_,rfl,by rw[et,<-ho]⟩)
  (λo ho=>⟨o,by simp only[IH,Dy],by grind⟩) (s:=[]) rfl
 rw[q1,q2];rfl
theorem mT (h:fW f r):TP f=some (Dm r-1):=by
 have a:=h.len;unfold TP;rw[h.i];simp only[Aa];obtain⟨b,h1,h2⟩:=AG (body:=λs:Int×Int=>Lk r s.1 s.2) (λ(o:Int) i=>(o,i)) r.length (λi o=>o=Dm (r.take i)-1) (λb=>b=Dm r-1)
  (λo i hi ho=>by
   have hx:=Ab hi;have et:r.take (i+1)=r.take i++ [r[i]]:=Aj hi;simp only[Lk,DH hi,Au,hx,Aa];rw[ad1];refine .inl ⟨_,rfl,?_⟩;rw[et,Zi,ho]
   omega)
  (λo ho=>⟨o,by simp only[Lk,Dy],by grind⟩) (s:=0) (by simp[Dm])
 rw[h1,h2];rfl
theorem uK (r:List Ap) (hr:GE r):Al (λs:Int×Int=>HQ r s.1 s.2) (0,1)=some (Ex r):=by
 have a:=hr.len;obtain⟨b,h1,h2⟩:=AG (body:=λs:Int×Int=>HQ r s.1 s.2) (λ(o:Int) i=>(i,o)) r.length (λi o=>o=Ex (r.take i)) (λb=>b=Ex r)
  (λo i hi ho=>by
   have hx:=Ab hi;have ht:=hr.tx _<|Aw hi;have et:r.take (i+1)=r.take i++ [r[i]]:=Aj hi;simp only[HQ,DH hi,Au,hx,Aa];rw[ad1,Cw];refine .inl ?_;by_cases e:r[i].Page.Kind=2
   ·rw[show(r[i].Page.Kind==2)=true by simpa using e];refine⟨_,rfl,?_⟩;rw[et,VB,ho];omega
   rw[show(r[i].Page.Kind==2)=false by simpa using e];refine⟨_,rfl,?_⟩
   rw[et,VB,ho,AM λhh=>e hh.1])
  (λo ho=>⟨o,by simp only[HQ,Dy],by grind⟩) (s:=1) rfl
 rw[<-h2];exact h1
theorem bY (l:List Tx) (hl:l.length<=1048576) (hr:∀x∈l,x.Recs.length<=20000):Al (λs:Int×List Vol×List Bq×Int×Int=>HP l s.1 s.2.1 s.2.2.1 s.2.2.2.1 s.2.2.2.2) (0,[],[],1,0)=Al (λs:Int×List Vol×List Bq×Int×Int=>DA l s.1 s.2.1 s.2.2.1 s.2.2.2.1 s.2.2.2.2) (0,[],[],1,0):=by
 obtain⟨b,h1,h2,_⟩:=HC (body:=λs:Int×List Vol×List Bq×Int×Int=>DA l s.1 s.2.1 s.2.2.1 s.2.2.2.1 s.2.2.2.2) (body':=λs:Int×List Vol×List Bq×Int×Int=>HP l s.1 s.2.1 s.2.2.1 s.2.2.2.1 s.2.2.2.2) (λ(o:Store×Int) i=>(i,o.1.Vols,o.1.Arena.Knots,o.1.Next,o.2)) l.length (λ_ o=>C3 o.1) (λ_=>True)
  (λo i hi hP=>by
   obtain⟨t,b0⟩:=o;have hx:=Ab hi;have d:=hr _<|Aw hi;have c:Store.mk t.Vols (Arena.mk t.Arena.Knots) t.Next=t:=rfl;simp only[DA,HP,DH hi,Au,hx,Aa];rw[c,fY hP _ (by omega),ad1];have a:=Y4 hP l[i].Recs (by omega);unfold QY at a;obtain⟨j,hj⟩:∃j,(cond ((i:Int)==0) (some l[i].Num) (some b0):Option Int)=some j:=by
    cases((i:Int)==0)with
    |true=>exact⟨_,rfl⟩
    |false=>exact⟨_,rfl⟩
   rw[hj];split at a
   ·rw[a];exact⟨rfl,.inl ⟨(t,j),rfl,hP⟩⟩
   obtain⟨u,u1,u2,_⟩:=a;rw[u1]
   exact⟨rfl,.inl ⟨(u,j),rfl,u2⟩⟩)
  (λo _=>⟨by simp only[DA,HP,Dy],(o.1.Vols,o.1.Arena.Knots,o.1.Next,o.2),by simp only[DA,Dy],trivial⟩) (s:=(Store.mk [] (Arena.mk []) 1,0)) gL
 grind
theorem M4 (hf:Bu f):Kf f=C7 f:=by
 obtain⟨r,hs,_⟩:=ACD hf;have hr:=Xo hs hf;obtain⟨g1,g2⟩:=Vo hr;obtain⟨b1,b2⟩:=Tv<|Be r;have a:=Ok r;have b:Dm r<=1000000001:=a.2.2 _ (by omega) (λy hy=>by have:=(hr.seq y hy).2;omega);unfold Kf C7;rw[R1,Qt hf,hs.s,hs.i,C9 f hf.cap,Gy,C9 f hf.cap,mT hs];unfold Ot Rj;simp only[Aa,An,Ad];rw[Wb r hr,uK r hr,Pc r hr,Yy r hr];simp only[Aa];rw[Sx _ g1 g2,bV _ g1 g2];simp only[Aa];rw[bY (CO<|Be r) (by omega) λx hx=>g2 x<|b2 x hx,Cw,show Dm r-1+1=Dm r by omega]
theorem jA {r:Int} (h:C3 s) (hr:r∈Bt s):Pu s.Arena r=some (ED s.Arena.Knots r):=by
 obtain⟨l,l1,l2,_⟩:=Tr s.Arena (nI h) r;rw[Ow s.Arena (by have:=h.few;omega) h.ar<|h.root r hr]at l1;rw[l2,l1]
theorem fJ {a b:Store} (ha:C3 a) (hb:C3 b) (e:AL a=AL b) (n:a.Next=b.Next):Pp a b=some true:=by
 have f:=ha.len;have d:a.Vols.length=b.Vols.length:=by rw[<-IR,<-IR,e]
 unfold Pp;rw[show(ln a.Vols !=ln b.Vols)=false by rw[Bj,Bj,d];simp,show(a.Next !=b.Next)=false by rw[n];simp];obtain⟨q,h1,h2⟩:=AG (body:=λs:Int=>IL a b s) (λ(_:Unit) i=>i) a.Vols.length (λ_ _=>True) (λq=>q= .inl ())
  (λ_ i hi _=>by
   have hx:=Ab hi;have hy:=Ab (show i<b.Vols.length by omega);have c:(AL a)[i]?=(AL b)[i]? :=by rw[e]
   unfold AL at c;rw[BX,BX,hx,hy]at c;simp only[BD,Av,oC]at c;obtain⟨e1,e2⟩:=c;simp only[IL,DH hi,Au,hx,hy,Aa];rw[jA hb (A5.2 ⟨_,Aw (show i<b.Vols.length by omega),rfl⟩),jA ha<|A5.2 ⟨_,Aw hi,rfl⟩,e1,e2];simp only[Aa,bne_self_eq_false,Ad];generalize hR:ED b.Arena.Knots b.Vols[i].Root=R;have g:R.length=16:=by rw[<-hR];unfold ED;simp
   obtain⟨z,z1,z2⟩:=AG (body:=λs:Int=>IK R R s) (λ(_:Unit) i=>i) R.length (λ_ _=>True) (λq=>q= .inl ())
    (λ_ k hk _=>by
     have hx:=Ab hk;simp only[IK,DH hk,Au,hx,Aa,bne_self_eq_false,Ad];rw[ad1]
     simp)
    (λ_ _=>⟨_,by simp only[IK,Dy],rfl⟩) (s:=()) trivial
   rw[z1,z2];rw[ad1]
   simp)
  (λ_ _=>⟨_,by simp only[IL,Dy],rfl⟩) (s:=()) trivial
 rw[h1,h2];rfl
theorem mY (h:Hc d r):Ru d=some true:=by
 obtain⟨m,m1,m2,m3⟩:=Ng h.fl h.sr;obtain⟨e1,e2,e3⟩:=Ip h m2 rfl;unfold Ru;rw[M4 h.fl,m1];simp only[Aa,Ai];rw[Yx h.st,fJ m2.st h.st e1 e2];rw[m2.seq,h.seq,m2.tx,h.tx,e3];simp
end Go.TI
