/- What is served is there whole or not at all. No condition; no program is in sight. -/
import Derived.Test.YtjjfmdpchohfaaaGreatWNP1
set_option linter.unusedVariables false
set_option linter.unusedSimpArgs false
namespace Go.TI
open Go
theorem AAI {l:List Leaf} (h:∀x∈l,x.Is=0):nb l=l.length:=by
 induction l with
 |nil=>rfl
 |cons x l ih=>
  have h1:=ih (λy hy=>h y<|by simp[hy]);unfold nb at h1⊢;rw[C6,No,h1,YT,AF (by grind),AA];omega
theorem ACq {l:List Leaf} (h:∀x∈l,x.Is≠0):nb l=0:=by
 induction l with
 |nil=>rfl
 |cons x l ih=>
  have h1:=ih (λy hy=>h y<|by simp[hy]);unfold nb at h1⊢;rw[C6,No,h1,YT,AG<|by grind]
theorem ADR (l m:List Leaf):nb (l++m)=nb l+nb m:=by unfold nb;grind
theorem Ll.nb {b:Block} (h:Ll b):nb b.Leaves=4-Ls b.Leaves:=by
 have a:=kK b.Leaves;have h4:=h.four;have e:Go.TI.nb b.Leaves=Go.TI.nb (b.Leaves.take<|Ls b.Leaves)+Go.TI.nb (b.Leaves.drop<|Ls b.Leaves):=by rw[<-ADR,Ct]
 rw[e,ACq (l:=b.Leaves.take<|Ls b.Leaves),AAI (l:=b.Leaves.drop<|Ls b.Leaves),Dc,h4]
 ·omega
 ·intro x hx;obtain⟨k,hk,rfl⟩:=A5 hx;rw[Dc]at hk;rw[Vt];exact h.blank (k:=Ls b.Leaves+k) (by omega)<|Ab _
 intro x hx;obtain⟨k,hk,rfl⟩:=A5 hx;rw[B4]at hk;rw[Kz];exact(Qb b.Leaves).1 k _ (by omega) (Ab _)
def UP (f:Flash) (b l:Int):Prop:=∃x,gi f.Blocks b=some x/\x.Bad=false/\l=(Ls x.Leaves:Int)/\Ls x.Leaves<4
variable {r m r':List Aq} {y:Aq} {f g:Flash} {t c b:Int} {d d':Ay} {α β:Type} {n j:Nat} {P:Int->Prop} {s:Store} {texts T:List ByteArray} {l:List AZ} {p:Page} {x:Tx} {a ss:List AS} {ps:List Page}
theorem dO (h:BA f):∃v:Int,Kl f=some v/\((v= -1/\∀b∈f.Blocks,b.Bad=false->Ls b.Leaves=0\/Ls b.Leaves=4)\/∃x,gi f.Blocks v=some x/\x.Bad=false/\Ls x.Leaves<4):=by
 unfold Kl;have hn:=h.n;obtain⟨b,h1,h3⟩:=AJ (body:=λs:Int=>Ef f s) (λ(_:Unit) i=>i) f.Blocks.length (λi _=>∀(j:Nat) b,j<i->f.Blocks[j]?=some b->b.Bad=false->Ls b.Leaves=0\/Ls b.Leaves=4) (λb=>(b= .inl ()/\∀b∈f.Blocks,b.Bad=false->Ls b.Leaves=0\/Ls b.Leaves=4)\/∃i:Nat,∃x,b= .inr (i:Int)/\f.Blocks[i]?=some x/\x.Bad=false/\Ls x.Leaves<4)
  (λ_ i hi hs=>by
   have hg:f.Blocks[i]?=some f.Blocks[i]:=Ab hi;have hP:=h.blk _<|Az hi;have c:=hP.nb;have h4:=hP.four;have d:=kK f.Blocks[i].Leaves;simp only[Ef,DW hi];rw[ZZ f i hg<|by omega];simp only[Aa,Au,hg];rw[ad1]
   cases a:f.Blocks[i].Bad with
   |true=>
    refine .inl ⟨(),rfl,λj b hj hb h0=>?_⟩
    grind
   |false=>
    simp only[AN,Ae];by_cases e:0<Ls f.Blocks[i].Leaves/\Ls f.Blocks[i].Leaves<4
    ·rw[Ad (by omega),Ad<|by omega]
     grind
    have:(cond (decide<|((nb f.Blocks[i].Leaves:Nat):Int)>0) (some<|decide<|((f.Blocks[i].Leaves.length-nb f.Blocks[i].Leaves:Nat):Int)>0) (some false):Option Bool)=some false:=by
     by_cases e2:nb f.Blocks[i].Leaves=0
     ·grind
     rw[Ad (by omega),Ah<|by omega];rfl
    rw[this];refine .inl ⟨(),rfl,λj b hj hb h0=>?_⟩
    grind)
  (λ_ hs=>⟨_,by simp only[Ef,DH],.inl ⟨rfl,λb hb=>by
   obtain⟨j,hj,rfl⟩:=A5 hb
   exact hs j _ hj<|Ab hj⟩⟩) (s:=()) (λj b hj=>by omega)
 rw[h1]
 rcases h3 with⟨rfl,h3⟩|⟨i,x,rfl,h4,h5,h6⟩
 ·grind
 exact⟨(i:Int),rfl,.inr ⟨x,by rw[Au];exact h4,h5,h6⟩⟩
theorem nX (h:BA f):∃b l:Int,∃ok:Bool,LD f=some (b,l,ok)/\(ok=true->UP f b l)/\(ok=false->∀b∈f.Blocks,b.Bad=false->Ls b.Leaves=4):=by
 have hn:=h.n;obtain⟨o,o1,o2⟩:=dO h;obtain⟨e1,_⟩:=U6 f h.cap;unfold LD;rw[Qx h,o1,e1];simp only[Aa,Ag,Ac]
 rcases o2 with⟨rfl,o2⟩|⟨x,o2,o3,o4⟩
 ·rw[Ah<|by omega];simp only[Ac];have a:∀y∈Ql f,UP f y 0:=by
   intro y hy;unfold Ql at hy;obtain⟨i,hi,rfl⟩:=A9.1 hy;obtain⟨d,c⟩:=Be.1 hi;rw[Lo]at d;unfold QX at c;rw[Ab d]at c;simp only[Ai,D4,A4]at c;have hP:=h.blk _<|Az d;have:=hP.nb;have:=hP.four;exact⟨_,by rw[Au];grind,c.1,by omega,by omega⟩
  cases g:Ql f with
  |nil=>
   refine⟨0,0,false,rfl,by simp,λ_ b hb j=>?_⟩
   rcases o2 b hb j with e|e
   ·obtain⟨i,hi,rfl⟩:=A5 hb;have hm:(i:Int)∈Ql f:=by
     unfold Ql;refine A9.2 ⟨i,Be.2 ⟨Lo.2 hi,?_⟩,rfl⟩;unfold QX;rw[Ab hi];have hP:=h.blk _<|Az hi;have:=hP.nb;have:=hP.four
     grind
    grind
   exact e
  |cons x l=>
   rw[g]at a;have t:(x::l).length<=10:=by
    rw[<-g];unfold Ql
    grind
   have m:(ln (x::l)==0)=false:=by simp[ln];omega
   rw[m];simp only[Ac];have p:gi (x::l) 0=some x:=Au (i:=0);rw[p];simp only[Aa]
   have k:∀y,UP f y 0->∃z,gi f.Blocks y=some z:=λy ⟨z,hz,_⟩=>⟨z,hz⟩
   obtain⟨w,w1,w2⟩:=Wi (body:=λs:Int×Int=>Fw f (x::l) s.1 s.2) (λ(b:Int) i=>(b,i)) (x::l).length (λ_ b=>UP f b 0) (λb=>UP f b 0)
    (λb i hi hb=>by
     have hg:(x::l)[i]?=some (x::l)[i]:=Ab hi;have hp:=a _<|Az hi;obtain⟨z1,q⟩:=k _ hp;obtain⟨z2,r⟩:=k _ hb;simp only[Fw,DW hi,Au,hg,Aa,q,r];rw[ad1]
     grind)
    (λb hb=>⟨b,by simp only[Fw,DH],hb⟩) l.length 1 x (by simp;omega) (a x<|by simp)
   have e1':((1:Nat):Int)=1:=rfl;rw[e1']at w1;rw[w1];exact⟨w,0,true,rfl,λ_=>w2,by simp⟩
 obtain⟨k1,k2⟩:=Cy o2;rw[cT,o2,Aa,KD x (h.blk x<|Ar k2).four];exact⟨_,_,true,rfl,λ_=>⟨x,o2,o3,rfl,o4⟩,by simp⟩
def ABm (f:Flash) (b:Int):Prop:=∃x,gi f.Blocks b=some x/\x.Bad=false/\x.Wear≠1000000000
def Vx (f:Flash) (b:Int):Flash:=Flash.mk (match gi f.Blocks b with
 |some x=>si f.Blocks b<|Block.mk false (x.Wear+1) OG
 |none=>f.Blocks)
theorem AAd (h:BA f) (b:Int):(ABm f b/\UF f b=some (Vx f b,true))\/(¬ABm f b/\UF f b=some (f,false)):=by
 have hn:=h.n;unfold UF;rw[CQ f h.cap,Qx h];simp only[Aa,Ag,Ac];rw[Bv,Cm,Ey];simp only[Aa];by_cases hb:0<=b/\b<=(f.Blocks.length:Int)-1
 ·rw[Ad hb];simp only[Ag,Ac];have hg:=Lc (l:=f.Blocks) hb.1 (by omega);have hm:f.Blocks[b.toNat]'(by omega)∈f.Blocks:=Az _;generalize c:f.Blocks[b.toNat]'(by omega)=x at hg hm;have hP:=h.blk x hm;rw[hg];simp only[Aa]
  cases a:x.Bad with
  |true=>
   refine .inr ⟨?_,rfl⟩;rintro⟨z,hz,h2,_⟩
   grind
  |false=>
   simp only[Ac,Aa];by_cases hw:x.Wear=1000000000
   ·rw[show(x.Wear==1000000000)=true by simpa using hw];refine .inr ⟨?_,rfl⟩;rintro⟨z,hz,_,h3⟩
    grind
   rw[show(x.Wear==1000000000)=false by simpa using hw];simp only[Ac];rw[Xe];simp only[Aa];have:=hP.wear;rw[Cp];refine .inl ⟨⟨x,hg,a,hw⟩,?_⟩;unfold Vx;rw[hg]
 rw[Ah hb];refine .inr ⟨?_,rfl⟩;rintro⟨z,hz,_⟩;obtain⟨k1,k2⟩:=Cy hz
 grind
theorem pX {bad:Bool} {w:Int} (h:0<=w/\w<=1000000000):Ll (Block.mk bad w OG):=by
 refine⟨rfl,h,λx hx=> .inl ?_,λk x y hx hy _=>?_⟩
 ·have:=Dx hx;rw[this];exact⟨rfl,rfl⟩
 have:=Dx<|Ar hy;rw[this]
theorem Wc (i:Int):∀(k:Int) (l:List Leaf),(∀x∈l,x.Is≠1)->XU i k l=[]
 |k,[],_=>rfl
 |k,x::l,h=>by
  rw[XU,Wc i (k+1) l (λy hy=>h y (by simp[hy]))];unfold pg
  grind
theorem XC (h:BA f) (hc:ABm f b):BA (Vx f b)/\KJ 0 (Vx f b).Blocks=(KJ 0 f.Blocks).filter λy=>y.Block !=b:=by
 obtain⟨x,h1,h2,h3⟩:=hc;obtain⟨k1,k2⟩:=Cy h1;obtain⟨c,rfl⟩:∃c:Nat,b=(c:Int):=⟨_,(AU k1).symm⟩;rw[Bi]at k2;have hP:=h.blk x<|Ar k2;have hw:=hP.wear;unfold Vx;rw[h1];simp only[El];exact⟨MV h (pX ⟨by omega,by omega⟩),XW k2 (Wc _ _ _ λy hy=>by rw[Dx hy];simp)⟩
def Si (f:Flash) (s:AS):Prop:=(s.Kind=1/\oR f s.Block s.Leaf s.Text)\/(s.Kind=2/\ABm f s.Block)
def Lq (f:Flash) (s:AS):Flash:=if s.Kind=1 then UN f s.Block s.Leaf (Leaf.mk 1 s.Text)else Vx f s.Block
theorem QF (h:BA f) (s:AS):(Si f s/\J6 f s=some (Lq f s,true))\/(¬Si f s/\J6 f s=some (f,false)):=by
 unfold J6;by_cases k1:s.Kind=1
 ·rw[show(s.Kind==1)=true by simpa using k1];simp only[Ae]
  rcases nU h s.Block s.Leaf s.Text with⟨h1,h2⟩|⟨h1,h2⟩
  ·rw[h2];exact .inl ⟨.inl ⟨k1,h1⟩,by unfold Lq;rw[AF k1];rfl⟩
  rw[h2];exact .inr ⟨by rintro(hh|hh);exact h1 hh.2;omega,rfl⟩
 rw[show(s.Kind==1)=false by simpa using k1];simp only[Ac];by_cases k2:s.Kind=2
 ·rw[show(s.Kind==2)=true by simpa using k2];simp only[Ae]
  rcases AAd h s.Block with⟨h1,h2⟩|⟨h1,h2⟩
  ·rw[h2];exact .inl ⟨.inr ⟨k2,h1⟩,by unfold Lq;rw[AG k1];rfl⟩
  rw[h2];exact .inr ⟨by rintro(hh|hh);omega;exact h1 hh.2,rfl⟩
 rw[show(s.Kind==2)=false by simpa using k2];simp only[Ac];rw[CQ f h.cap];exact .inr ⟨by rintro(hh|hh)<;>omega,rfl⟩
theorem uQ {s:AS} (h:BA f) (hs:Si f s):BA (Lq f s):=by
 unfold Lq
 rcases hs with⟨h1,h2⟩|⟨h1,h2⟩
 ·rw[AF h1];exact(QQ h h2).1
 rw[AG<|by omega];exact(XC h h2).1
theorem ZA {t:ByteArray} {ok:Bool} (h:BA f) (steps:List AS) (hs:steps.length<=1000) (p:Page) (ht:Ev p=some (t,ok)) (hl:ok=true->1<=(L t).length/\(L t).length<=120):
  (ok=true/\∃b l,UP f b l/\LD f=some (b,l,true)/\DP f steps p=some (UN f b l (Leaf.mk 1 t),steps++ [AS.mk 1 b l t],true))\/DP f steps p=some (f,steps,false):=by
 obtain⟨b,l,room,p1,p2,_⟩:=nX h;unfold DP;rw[ht,p1];simp only[Aa]
 cases ok with
 |false=>exact .inr rfl
 |true=>
  simp only[Ag,Ac,Aa]
  cases room with
  |false=>exact .inr rfl
  |true=>
   simp only[Ag,Ac];have hp:=p2 rfl;have hl':=hl rfl;have hm:oR f b l t:=by
    obtain⟨x,a1,a2,a3,a4⟩:=hp;exact⟨x,a1,a2,a3,a4,hl'⟩
   rcases QF h (AS.mk 1 b l t)with⟨h1,h2⟩|⟨h1,h2⟩
   ·rw[h2];rw[Aa,BD (by simp;omega)];refine .inl ⟨trivial,b,l,hp,rfl,?_⟩;rfl
   exact absurd (.inl ⟨rfl,hm⟩) h1
theorem p9 (u:ByteArray) (hu:(L u).length<=20000) (a:Nat) (ha:a<=(L u).length):∃n c,Dl (Ex.mk u (a:Int) false)=some (n,c)/\c.text_=u/\(c.bad_=true\/c.bad_=false/\∃b:Nat,c.at_=b/\a<b/\b<=(L u).length)/\(c.bad_=true->c.at_=a):=by
 obtain⟨r,h1,_,h2⟩:=IM u (a:Int) (by omega) ⟨by omega,by omega⟩;rw[Ko u _ hu h1]
 rcases h2 with⟨e1,e2,e3⟩|⟨e1,a',b,n,k1,k2,k3,k4,k5,_⟩
 ·grind
 grind
theorem u7 (t:ByteArray) (ht:(L t).length<=20000):∀(n a:Nat) (b:List C3),(L t).length-a<=n->a<=(L t).length->b.length<=a->∃r,Ao (λs:List C3×ByteArray×Int×Bool=>EB t s.1 s.2.1 s.2.2.1 s.2.2.2) (b,t,(a:Int),false)=some r/\(r= .inr ([],false)\/∃l:List C3,r= .inl l/\l.length<=(L t).length)
 |n,a,b,hn,ha,ho=>by
  rw[Aw];simp only[EB];rw[B3];by_cases c:a<(L t).length
  ·rw[Ad (by omega:(a:Int)<((L t).length:Int))];simp only[Ae,Aa,AN];rw[Fs t c,ad1];simp only[Aa];obtain⟨n1,c1,v1,t1,h1,z1⟩:=p9 t ht (a+1) (by omega);rw[v1];simp only[Aa]
   rcases h1 with e1|⟨e1,b1,k1,k2,k3⟩
   ·
    have hz:=z1 e1;obtain⟨c1t,c1a,c1b⟩:=c1;simp only at t1 e1 hz;subst t1 e1 hz;rw[H0 _ _ ht ⟨by omega,by omega⟩]
    grind
   obtain⟨c1t,c1a,c1b⟩:=c1;simp only at t1 e1 k1;subst t1 e1 k1;obtain⟨n2,c2,v2,t2,h2,z2⟩:=p9 c1t ht b1 k3;rw[v2];simp only[Aa]
   rcases h2 with e2|⟨e2,b2,m1,m2,m3⟩
   ·rw[e2]
    grind
   rw[e2];simp only[Ac];rw[NQ];simp only[Aa]
   cases GM _ with
   |false=>grind
   |true=>
    simp only[Ag,Ac];rw[BD (by simp;omega),t2,m1];simp only[Aa]
    match n,hn with
    |n+1,hn=>exact u7 c1t ht n b2 _ (by omega) m3 (by simp;omega)
    |0,hn=>omega
  rw[Ah<|by omega]
  grind
noncomputable def f9 (t:ByteArray):Option (List C3):=match Ix t with
 |some (l,true)=>some l
 |_=>none
theorem cR (t:ByteArray) (ht:(L t).length<=20000):∃l ok,Ix t=some (l,ok)/\f9 t=(if ok=true then some l else none)/\l.length<=20000:=by
 obtain⟨r,h1,h2⟩:=u7 t ht (L t).length 0 [] (by omega) (by omega) (by simp);unfold f9 Ix
 grind
def qW (t a b:Int) (y:Aq):Bool:=y.Page.Kind==2&&(y.Page.Tx==t&&(y.Page.Part==a&&(!decide (a>0)||y.Page.Count==b)))
def SY (r:List Aq) (t a b:Int):Option Aq:=r.find?<|qW t a b
theorem l9 {i:Nat} {x:α} (l:List α) (p:α->Bool) (h:∀j x,j<i->l[j]?=some x->p x=false) (hx:l[i]?=some x) (hp:p x=true):l.find? p=some x:=by
 obtain⟨h1,h2⟩:=JX hx;rw[h1,List.find?_append];have:(l.take i).find? p=none:=by
  rw[Ue];intro y hy;obtain⟨j,hj,rfl⟩:=A5 hy
  grind
 grind
theorem vY (l:List α) (p:α->Bool) (h:∀(j:Nat) x,l[j]?=some x->p x=false):l.find? p=none:=by
 rw[Ue];intro y hy;obtain⟨j,hj,rfl⟩:=A5 hy;rw[h j _<|Ab hj];simp
structure GJ (r:List Aq):Prop where
 len:r.length<=1048576
 text:∀y∈r,(L y.Page.Text).length<=90
 seq:∀y∈r,1<=y.Page.Seq/\y.Page.Seq<=1000000000
 tx:∀y∈r,1<=y.Page.Tx/\y.Page.Tx<=1000000000
 cnt:∀y∈r,1<=y.Page.Count/\y.Page.Count<=9
 part:∀y∈r,0<=y.Page.Part/\y.Page.Part<y.Page.Count
def QT (a seq:Int) (y:Aq):Int:=if a=0\/y.Page.Seq<seq then y.Page.Seq else seq
theorem AAT (r:List Aq) (hr:GJ r) (t a c:Int) (hp:0<=a) (text:ByteArray) (ht:(L text).length<=10000) (seq:Int):
  ∃text2,Ao (λs:Int×ByteArray×Bool×Int×Int=>JV r t a s.1 s.2.1 s.2.2.1 s.2.2.2.1 s.2.2.2.2) (c,text,false,0,seq)=some (match SY r t a c with
   |none=>(c,text,false,seq)
   |some y=>(y.Page.Count,text2,true,QT a seq y))/\(∀y,SY r t a c=some y->L text2=L text++L y.Page.Text):=by
 have g:=hr.len;obtain⟨b,h1,h2⟩:=AJ (body:=λs:Int×ByteArray×Bool×Int×Int=>JV r t a s.1 s.2.1 s.2.2.1 s.2.2.2.1 s.2.2.2.2) (λ(s:Int×ByteArray×Bool×Int) i=>(s.1,s.2.1,s.2.2.1,i,s.2.2.2)) r.length
  (λi s=>(s=(c,text,false,seq)/\∀(j:Nat) x,j<i->r[j]?=some x->qW t a c x=false)\/∃y u,SY r t a c=some y/\L u=L text++L y.Page.Text/\s=(y.Page.Count,u,true,QT a seq y))
  (λb=>(b=(c,text,false,seq)/\SY r t a c=none)\/∃y u,SY r t a c=some y/\L u=L text++L y.Page.Text/\b=(y.Page.Count,u,true,QT a seq y))
  (λs i hi hs=>by
   have hx:=Ab hi;have hm:r[i]∈r:=Az hi;simp only[JV,FX,Ad hi,Ae,Aa]
   rcases hs with⟨rfl,hs⟩|⟨y,u,f1,f2,rfl⟩
   ·simp only[AN,Ae,Au,hx,Aa];have e:(cond (r[i].Page.Kind !=2) (some true) (cond (r[i].Page.Tx !=t) (some true)<|cond (r[i].Page.Part !=a) (some true)<|cond (decide<|a>0) (some<|r[i].Page.Count !=c)<|some false):Option Bool)=some (!qW t a c r[i]):=by
     unfold qW
     grind
    rw[e,Aa,ad1]
    cases hM:qW t a c r[i]with
    |false=>
     refine .inl ⟨_,rfl,.inl ⟨rfl,λj x hj d=>?_⟩⟩
     grind
    |true=>
     have h:=hr.text _ hm;simp only[Ag,Ac];rw[Ga _ _<|by omega];simp only[Aa];have hf:SY r t a c=some r[i]:=l9 r _ (λj x hj d=>hs j x hj d) hx hM;have f:(cond (a==0) (some true) (some<|decide<|r[i].Page.Seq<seq):Option Bool)=some (decide<|a=0\/r[i].Page.Seq<seq):=by grind
     rw[f];simp only[Aa];refine .inl ⟨(r[i].Page.Count,text++r[i].Page.Text,true,QT a seq r[i]),?_,.inr ⟨r[i],_,hf,DS _ _,rfl⟩⟩;unfold QT
     grind
   simp only[Ag,Ac]
   grind)
  (λs hs=>by
   refine⟨s,by simp only[JV,FX,Dw,EV,Ac,Aa],?_⟩
   rcases hs with⟨rfl,hs⟩|hs
   ·exact .inl ⟨rfl,vY r _ λj x hx=>hs j x (Af.1 hx).1 hx⟩
   exact .inr hs) (s:=(c,text,false,seq)) (.inl ⟨rfl,λj x hj=>by omega⟩)
 have h1':Ao (λs:Int×ByteArray×Bool×Int×Int=>JV r t a s.1 s.2.1 s.2.2.1 s.2.2.2.1 s.2.2.2.2) (c,text,false,0,seq)=some b:=h1;rw[h1']
 rcases h2 with⟨rfl,h2⟩|⟨y,u,f1,f2,rfl⟩
 ·rw[h2];simp
 rw[f1]
 grind
def parts (r:List Aq) (t:Int):Nat->Int->Int->List UInt8->Int->Option (List UInt8×Int)
 |0,_,_,_,_=>none
 |n+1,a,c,b,seq=>if a=0\/a<c then(match SY r t a c with
  |none=>none
  |some y=>parts r t n (a+1) y.Page.Count (b++L y.Page.Text) (QT a seq y))else some (b,seq)
theorem vP {t a b:Int} (h:qW t a b y=true) (hp:0<a):y.Page.Count=b:=by
 unfold qW at h
 grind
theorem SX {t a b:Int} (h:SY r t a b=some y):y∈r/\qW t a b y=true:=⟨List.mem_of_find?_eq_some h,List.find?_some h⟩
theorem oT (r:List Aq) (hr:GJ r) (t:Int):∀(n:Nat) (a cnt:Int) (text:ByteArray) (seq:Int),a+n=11->0<=a->(a=0\/(a<=cnt/\cnt<=9))->(L text).length<=90*a.toNat->
  ∃b,Ao (λs:Int×ByteArray×Int×Int=>QA r t s.1 s.2.1 s.2.2.1 s.2.2.2) (cnt,text,a,seq)=some b/\(match parts r t n a cnt (L text) seq with
   |none=>∃q,b= .inr (Tx.mk t q [],false)
   |some (x,q)=>∃u,b= .inl (u,q)/\L u=x/\(L u).length<=1000)
 |0,a,cnt,text,seq,hn,h0,hc,ht=>by omega
 |n+1,a,cnt,text,seq,hn,h0,hc,ht=>by
  rw[Aw];simp only[QA,parts];have c:(cond (a==0) (some true) (some (decide (a<cnt))):Option Bool)=some (decide (a=0\/a<cnt)):=by grind
  rw[c];simp only[Aa];by_cases e:a=0\/a<cnt
  ·rw[Ad e,AF e];simp only[Ae];obtain⟨text2,h1,h2⟩:=AAT r hr t a cnt h0 text (by omega) seq;rw[h1]
   cases hf:SY r t a cnt with
   |none=>simp
   |some y=>
    simp only[Aa,Ag,Ac];have hy:=SX hf;have hL:=h2 y hf;have d:=hr.text y hy.1;have f:=hr.cnt y hy.1;rw[Cp,<-hL];refine oT r hr t n (a+1) y.Page.Count text2 _ (by omega) (by omega) (.inr ?_) ?_
    ·rcases e with e|e
     ·omega
     by_cases e2:a=0
     ·omega
     have:=vP hy.2 (by omega);omega
    grind
  rw[Ah e,AG e]
  grind
noncomputable def IR (r:List Aq) (t:Int):Option Tx:=match parts r t 11 0 0 [] 0 with
 |none=>none
 |some (x,q)=>(f9 (bs x)).map λl=>Tx.mk t q l
theorem AEX (u:ByteArray):bs (L u)=u:=Lk<|by rw[ET]
theorem fS (r:List Aq) (hr:GJ r) (t:Int):∃x ok,YL r t=some (x,ok)/\IR r t=(if ok=true then some x else none)/\x.Recs.length<=20000:=by
 obtain⟨b,h1,h2⟩:=oT r hr t 11 0 0 (bs []) 0 (by omega) (by omega) (.inl rfl) (by rw[ET];simp);rw[ET]at h2;unfold YL IR;rw[h1];simp only[Aa]
 cases hp:parts r t 11 0 0 [] 0 with
 |none=>grind
 |some w=>
  obtain⟨x,q⟩:=w;rw[hp]at h2;obtain⟨u,rfl,rfl,h4⟩:=h2;simp only[Bo];obtain⟨l,ok,r1,r2,r3⟩:=cR u (by omega);rw[r1,AEX,r2];simp only[Aa]
  grind
theorem VX {P:List α->Prop} (nil:P []) (app:∀l x,P l->P (l++ [x])) (l:List α):P l:=by
 rw[<-List.reverse_reverse l]
 induction l.reverse with
 |nil=>exact nil
 |cons x l ih=>grind
def Dz (r:List Aq):List Int:=r.foldl (λns y=>if y.Page.Kind=2 then ins ns y.Page.Tx else ns) []
theorem Wf (r:List Aq) (y:Aq):Dz (r++ [y])=if y.Page.Kind=2 then ins (Dz r) y.Page.Tx else Dz r:=by unfold Dz;grind
theorem GY (r:List Aq) (h:∀y∈r,1<=y.Page.Tx):asc (Dz r)/\(∀x,x∈Dz r↔∃y∈r,y.Page.Kind=2/\y.Page.Tx=x)/\(Dz r).length<=r.length:=by
 have main:∀n,n<=r.length->asc (Dz<|r.take n)/\(∀x,x∈Dz (r.take n)↔∃y∈r.take n,y.Page.Kind=2/\y.Page.Tx=x)/\(Dz<|r.take n).length<=n:=by
  intro n
  induction n with
  |zero=>intro _;simp[Dz,asc]
  |succ n ih=>
   intro hn;obtain⟨h1,h2,h3⟩:=ih (by omega);have et:r.take (n+1)=r.take n++ [r[n]'(by omega)]:=Al (by omega);have hy:=h _ (Az<|show n<r.length by omega);generalize r[n]'(by omega)=y at et hy;rw[et,Wf]
   have a:∀z∈Dz (r.take n),0<z:=λz hz=>by grind
   by_cases e:y.Page.Kind=2
   ·rw[AF e];refine⟨vU h1,λx=>?_,by have:=aP (Dz<|r.take n) y.Page.Tx h1;omega⟩;rw[vT a,h2 x]
    grind
   grind
 have:=main r.length<|Ax _
 grind
theorem dR (r:List Aq) (hr:GJ r):Ao (λs:List Int×Int=>Km r s.1 s.2) ([],0)=some (Dz r):=by
 have d:=hr.len;obtain⟨b,h1,h2⟩:=AJ (body:=λs:List Int×Int=>Km r s.1 s.2) (λ(o:List Int) i=>(o,i)) r.length (λi o=>o=Dz (r.take i)) (λb=>b=Dz r)
  (λo i hi ho=>by
   have hx:=Ab hi;have hm:r[i]∈r:=Az hi;have f:=(hr.tx _ hm).1;have c:=GY (r.take i) λy hy=>(hr.tx y<|List.mem_of_mem_take hy).1;have g:o.length<=1048576:=by grind
   have et:r.take (i+1)=r.take i++ [r[i]]:=Al hi;simp only[Km,DW hi,Au,hx,Aa];rw[ad1];refine .inl ?_;by_cases e:r[i].Page.Kind=2
   ·rw[show(r[i].Page.Kind !=2)=false by simp[e]];simp only[Ac]
    rw[Qn (body:=λs:List Int×Int=>MD o r[i] s.1 s.2) o (λy=>decide<|y<r[i].Page.Tx) [] (by simp;omega)
     (λu k x hk hu=>by
      have a:=(Af.1 hk).1
      simp only[MD,DW a,Au,hk,Aa])
     (λu=>by simp only[MD,DH])]
    simp only[Aa,A6];have h:=BG (λy=>decide<|y<r[i].Page.Tx) o
    rw[BD (by grind),Aa,Qn (body:=λs:List Int×Int=>MC o r[i] s.1 s.2) o (λy=>decide<|y>r[i].Page.Tx) _ (by grind)
     (λu k x hk hu=>by
      have a:=(Af.1 hk).1
      simp only[MC,DW a,Au,hk,Aa])
     (λu=>by simp only[MC,DH])]
    simp only[Aa];refine⟨_,rfl,?_⟩;rw[et,Wf,AF e,<-ho];unfold ins
    grind
   rw[show(r[i].Page.Kind !=2)=true by simpa using e]
   exact⟨o,rfl,by rw[et,Wf,AG e,ho]⟩)
  (λo ho=>⟨o,by simp only[Km,DH],by grind⟩) (s:=[]) rfl
 grind
noncomputable def Bj (r:List Aq):List Tx:=(Dz r).filterMap (IR r)
theorem Tk (hr:GJ r) (h:IR r t=some x):x.Num=t/\x.Recs.length<=20000:=by
 obtain⟨z,ok,h1,h2,h3⟩:=fS r hr t;rw[h]at h2
 cases ok with
 |false=>cases h2
 |true=>
  rw[AF rfl]at h2
  injection h2 with h2
  subst h2;refine⟨?_,h3⟩;unfold IR at h;split at h
  ·cases h
  obtain⟨l,_,rfl⟩:=AX.1 h;rfl
theorem Pc (r:List Aq) (hr:GJ r):Su r=some (Bj r):=by
 have c:=hr.len;have a:=GY r λy hy=>(hr.tx y hy).1;have d:=a.2.2;unfold Su;rw[dR r hr];simp only[Aa];obtain⟨b,h1,h2⟩:=AJ (body:=λs:List Tx×Int=>MB r (Dz r) s.1 s.2) (λ(o:List Tx) i=>(o,i)) (Dz r).length (λi o=>o=((Dz r).take i).filterMap (IR r)) (λb=>b=Bj r)
  (λo i hi ho=>by
   have hx:=Ab hi;have et:(Dz r).take (i+1)=(Dz r).take i++ [(Dz r)[i]]:=Al hi;have e:o.length<=i:=by grind
   simp only[MB,DW hi,Au,hx,Aa];rw[ad1];obtain⟨z,ok,k1,k2,k3⟩:=fS r hr (Dz r)[i];rw[k1];simp only[Aa];refine .inl ?_
   cases ok with
   |true=>
    simp only[Ae];rw[BD<|by grind]
    grind
   |false=>grind)
  (λo ho=>⟨o,by simp only[MB,DH],by rw[ho,DR];rfl⟩) (s:=[]) rfl
 rw[h1,h2];rfl
def d7 (x:Tx):Bool:=match x.Recs with
 |[]=>false
 |r::_=>r.Kind==1
def tN (l:List Tx):Nat:=l.zipIdx.foldl (λa z=>if d7 z.1=true then z.2 else a) 0
def CS (l:List Tx):List Tx:=l.drop<|tN l
theorem RA (l:List Tx) (x:Tx):tN (l++ [x])=if d7 x=true then l.length else tN l:=by
 unfold tN
 grind
theorem tM (l:List Tx):tN l<=l.length:=by
 induction l using VX with
 |nil=>simp[tN]
 |app l x ih=>
  rw[RA,Ak]
  grind
theorem To (l:List Tx) (x:Tx):CS (l++ [x])=if d7 x=true then [x]else CS l++ [x]:=by
 unfold CS;rw[RA];by_cases e:d7 x=true
 ·grind
 rw[AG e,AG e,List.drop_append_of_le_length<|tM l]
theorem nC (l:List Tx):∃A,l=A++CS l/\(A≠ []->∃x B,CS l=x::B/\d7 x=true)/\∀x B,CS l=x::B->∀y∈B,d7 y=false:=by
 induction l using VX with
 |nil=>exact⟨[],rfl,λh=>absurd rfl h,λx B h=>by cases h⟩
 |app l x ih=>
  obtain⟨A,h1,h2,h3⟩:=ih;rw[To];by_cases e:d7 x=true
  ·rw[AF e];exact⟨l,rfl,λ_=>⟨x,[],rfl,e⟩,λy B h=>by grind⟩
  rw[AG e];refine⟨A,by grind,λhA=>?_,λy B h=>?_⟩
  ·grind
  cases hs:CS l with
  |nil=>grind
  |cons w B'=>grind
theorem zW (A:List Tx):∀(B:List Tx),(A≠ []->∃x B',B=x::B'/\d7 x=true)->(∀x B',B=x::B'->∀y∈B',d7 y=false)->CS (A++B)=B:=by
 intro B
 induction B using VX with
 |nil=>
  intro h1 _
  cases A with
  |nil=>rfl
  |cons a A=>grind
 |app B y ih=>
  intro h1 h2;rw[<-AE,To]
  cases B with
  |nil=>
   by_cases e:d7 y=true
   ·rw[AF e];rfl
   rw[AG e]
   cases A with
   |nil=>rfl
   |cons a A=>grind
  |cons b B=>
   have hy:d7 y=false:=h2 b (B++ [y]) rfl y (by simp);rw[AG (by rw[hy];simp),ih]
   ·grind
   intro x B' h z hz
   injection h with h4 h5
   subst h4 h5;exact h2 b (B++ [y]) rfl z<|by simp[hz]
theorem Ss (l:List Tx) (hl:l.length<=1048576) (hr:∀x∈l,x.Recs.length<=20000):OY l=some (CS l):=by
 unfold OY;obtain⟨b,h1,h2⟩:=AJ (body:=λs:Int×Int=>Iv l s.1 s.2) (λ(o:Int) i=>(o,i)) l.length (λi o=>o=(tN (l.take i):Int)) (λb=>b=(tN l:Int))
  (λo i hi ho=>by
   have hx:=Ab hi;have et:l.take (i+1)=l.take i++ [l[i]]:=Al hi;simp only[Iv,DW hi,Au,hx,Aa];rw[ad1];refine .inl ?_;have d:(l.take i).length=i:=by grind
   cases a:l[i].Recs with
   |nil=>
    refine⟨o,rfl,?_⟩;rw[et,RA,AG (by unfold d7;rw[a];simp),ho]
   |cons q m=>
    have hg:gi (q::m) 0=some q:=Au (i:=0);rw[Ad (by rw[Bv,AA];omega:ln (q::m)>0)];simp only[Ae,hg,Aa]
    cases hk:(q.Kind==1)with
    |true=>
     refine⟨(i:Int),rfl,?_⟩;rw[et,RA,AF (by unfold d7;rw[a];exact hk),d]
    |false=>
     refine⟨o,rfl,?_⟩
     rw[et,RA,AG (by unfold d7;grind),ho])
  (λo ho=>⟨o,by simp only[Iv,DH],by grind⟩) (s:=0) rfl
 rw[h1,h2];simp only[Aa];have e:=tM l;obtain⟨c,q1,q2⟩:=Wi (body:=λs:List Tx×Int=>Iu l s.1 s.2) (λ(o:List Tx) i=>(o,i)) l.length (λi o=>o=(l.take i).drop (tN l)/\tN l<=i) (λb=>b=CS l)
  (λo i hi hs=>by
   obtain⟨ho,f⟩:=hs;have hx:=Ab hi;have hm:l[i]∈l:=Az hi;have g:=hr _ hm;have et:l.take (i+1)=l.take i++ [l[i]]:=Al hi;have h:o.length<=1048576:=by grind
   simp only[Iu,DW hi,Au,hx,Aa];rw[Ma (by omega),Aa,BD (by grind),Aa,ad1];refine .inl ⟨_,rfl,?_,by omega⟩
   rw[et,List.drop_append_of_le_length (by grind),<-ho])
  (λo hs=>⟨o,by simp only[Iu,DH],by rw[hs.1,DR];rfl⟩) (l.length-tN l) (tN l) [] (by omega) ⟨by grind,Ax _⟩
 rw[q1,q2];rfl
def CZ (l:Vs) (nx:Int) (a:List C3):Option (Vs×Int):=a.foldl (λo r=>o.bind λp=>Dr p.1 p.2 r)<|some (l,nx)
theorem Ta (a:List C3):a.foldl (λ(o:Option (Vs×Int)) r=>o.bind λp=>Dr p.1 p.2 r) none=none:=by
 induction a with
 |nil=>rfl
 |cons r l ih=>grind
theorem Hd (l:Vs) (nx:Int) (r:C3) (a:List C3):CZ l nx (r::a)=(Dr l nx r).bind λp=>CZ p.1 p.2 a:=by
 unfold CZ;rw[RX];simp only[Aa]
 cases Dr l nx r with
 |none=>exact Ta a
 |some p=>rfl
theorem Ms (l:Vs) (nx:Int) (a b:List C3):CZ l nx (a++b)=(CZ l nx a).bind λp=>CZ p.1 p.2 b:=by
 unfold CZ;rw[List.foldl_append]
 cases a.foldl (λ(o:Option (Vs×Int)) r=>o.bind λp=>Dr p.1 p.2 r) (some (l,nx))with
 |none=>exact Ta b
 |some p=>rfl
def QY (s:Store) (a:List C3) (o:Option (Store×Bool)):Prop:=match CZ (Bb s) s.Next a with
 |none=>o=some (s,false)
 |some (l,nx)=>∃t,o=some (t,true)/\C9 t/\Bb t=l/\t.Next=nx
theorem Yh (h:C9 s) (a:List C3) (hr:a.length<=1048576):QY s a (LE s a):=by
 have hl:=h.len;have e:=Lg h.ar (by have:=h.few;omega);have c:=Gw s e (by omega);unfold LE;rw[c];simp only[Aa];obtain⟨b,h1,h2⟩:=AJ (body:=λq:Int×List Vol×List Bz×Int=>EE s a q.1 q.2.1 q.2.2.1 q.2.2.2) (λ(t:Store) i=>(i,t.Vols,t.Arena.Knots,t.Next)) a.length
  (λi t=>C9 t/\CZ (Bb s) s.Next (a.take i)=some (Bb t,t.Next))
  (λb=>(b= .inr (s,false)/\CZ (Bb s) s.Next a=none)\/∃t,b= .inl (t.Vols,t.Arena.Knots,t.Next)/\C9 t/\CZ (Bb s) s.Next a=some (Bb t,t.Next))
  (λt i hi hs=>by
   obtain⟨hP,he⟩:=hs;have hx:=Ab hi;obtain⟨e1,e2⟩:=JX hx;have et:a.take (i+1)=a.take i++ [a[i]]:=Al hi;simp only[EE,DW hi,Au,hx,Aa];have d:=bS hP a[i];unfold Mm at d;have f:Store.mk t.Vols (Arena.mk t.Arena.Knots) t.Next=t:=rfl;rw[f]
   cases hv:Dr (Bb t) t.Next a[i]with
   |none=>
    rw[hv]at d;rw[d];simp only[Aa,AN,Ae];rw[c];refine .inr ⟨_,rfl,.inl ⟨rfl,?_⟩⟩;rw[e1,Ms,he,Aa,Hd,hv];rfl
   |some p=>
    obtain⟨l,nx⟩:=p;rw[hv]at d;obtain⟨u,u1,u2,u3,u4⟩:=d;rw[u1];simp only[Aa,Ag,Ac];rw[ad1];refine .inl ⟨u,rfl,u2,?_⟩;rw[et,Ms,he,Aa,Hd,hv,Aa,u3,u4]
    rfl)
  (λt hs=>⟨_,by simp only[EE,DH],.inr ⟨t,rfl,hs.1,by grind⟩⟩) (s:=s) ⟨h,rfl⟩
 rw[h1];unfold QY
 rcases h2 with⟨rfl,h2⟩|⟨t,rfl,h2,h3⟩
 ·rw[h2];rfl
 rw[h3];exact⟨t,rfl,h2,rfl,rfl⟩
def CT (r:List Aq):Int:=r.foldl (λm y=>if y.Page.Seq>=m then y.Page.Seq+1 else m) 1
def DO (r:List Aq):Int:=r.foldl (λm y=>if y.Page.Kind=2/\y.Page.Tx>=m then y.Page.Tx+1 else m) 1
def LZ (l:List Tx):Int:=match l with
 |[]=>0
 |x::_=>x.Num
def LL (l:List Tx):Vs×Int:=l.foldl (λp x=>(CZ p.1 p.2 x.Recs).getD p) ([],1)
theorem YK (r:List Aq) (y:Aq):CT (r++ [y])=if y.Page.Seq>=CT r then y.Page.Seq+1 else CT r:=by unfold CT;grind
theorem V4 (r:List Aq) (y:Aq):DO (r++ [y])=if y.Page.Kind=2/\y.Page.Tx>=DO r then y.Page.Tx+1 else DO r:=by unfold DO;grind
theorem Oj (r:List Aq):(∀y∈r,y.Page.Seq<CT r)/\1<=CT r/\(∀b,1<=b->(∀y∈r,y.Page.Seq<b)->CT r<=b):=by
 induction r using VX with
 |nil=>exact⟨λy hy=>(by cases hy),by simp[CT],λb hb _=>by simpa[CT]using hb⟩
 |app r x ih=>
  obtain⟨h1,h2,h3⟩:=ih;rw[YK]
  grind
theorem Zs (r:List Aq):(∀y∈r,y.Page.Kind=2->y.Page.Tx<DO r)/\1<=DO r/\(∀b,1<=b->(∀y∈r,y.Page.Kind=2->y.Page.Tx<b)->DO r<=b):=by
 induction r using VX with
 |nil=>exact⟨λy hy=>(by cases hy),by simp[DO],λb hb _=>by simpa[DO]using hb⟩
 |app r x ih=>
  obtain⟨h1,h2,h3⟩:=ih;rw[V4]
  grind
theorem Xc (h:eT f r) (hf:BA f):GJ r:=by
 have a:∀y∈r,(1<=y.Page.Seq/\y.Page.Seq<=1000000000)/\(1<=y.Page.Tx/\y.Page.Tx<=1000000000)/\(1<=y.Page.Count/\y.Page.Count<=9)/\(0<=y.Page.Part/\y.Page.Part<y.Page.Count):=by
  intro y hy;obtain⟨b,x,g1,g2,_,g3⟩:=h.page y hy;obtain⟨_,k1⟩:=Cy g1;obtain⟨_,k2⟩:=Cy g2;have hx:=hf.text b (Ar k1) x<|Ar k2;obtain⟨p,ok,m1,_,_,m2⟩:=IN x.Text (by omega);rw[g3]at m1
  injection m1 with m1
  injection m1 with m1 m3
  have hp:=m2 m3.symm;obtain⟨v,q1,_,q2⟩:=TQ p
  grind
 exact⟨h.len,h.text,λy hy=>(a y hy).1,λy hy=>(a y hy).2.1,λy hy=>(a y hy).2.2.1,λy hy=>(a y hy).2.2.2⟩
theorem VS (r:List Aq) (hr:GJ r):Ao (λs:Int×Int×Int=>HJ r s.1 s.2.1 s.2.2) (0,1,1)=some (CT r,DO r):=by
 have c:=hr.len;obtain⟨b,h1,h2⟩:=AJ (body:=λs:Int×Int×Int=>HJ r s.1 s.2.1 s.2.2) (λ(o:Int×Int) i=>(i,o.1,o.2)) r.length (λi o=>o=(CT<|r.take i,DO<|r.take i)) (λb=>b=(CT r,DO r))
  (λo i hi ho=>by
   subst ho;have hx:=Ab hi;have hm:r[i]∈r:=Az hi;have hs:=hr.seq _ hm;have ht:=hr.tx _ hm;have et:r.take (i+1)=r.take i++ [r[i]]:=Al hi;simp only[HJ,DW hi,Au,hx,Aa];rw[et,YK,V4,ad1];have a:(cond (decide<|r[i].Page.Seq>=CT (r.take i)) (some<|ad r[i].Page.Seq 1) (some<|CT<|r.take i):Option Int)=some (if r[i].Page.Seq>=CT (r.take i)then r[i].Page.Seq+1 else CT<|r.take i):=by
    by_cases e:r[i].Page.Seq>=CT (r.take i)
    ·rw[Ad e,AF e,Cp];rfl
    grind
   rw[a];simp only[Aa];refine .inl ?_;by_cases e:r[i].Page.Kind=2
   ·rw[show(r[i].Page.Kind==2)=true by simpa using e];simp only[Ae,Aa];by_cases e2:r[i].Page.Tx>=DO (r.take i)
    ·rw[Ad e2,AF<|show r[i].Page.Kind=2/\r[i].Page.Tx>=DO (r.take i)from⟨e,e2⟩,Cp]
     grind
    grind
   grind)
  (λo ho=>⟨o,by simp only[HJ,DH],by grind⟩) (s:=(1,1)) rfl
 grind
theorem fJ:C9 (Store.mk [] (Arena.mk []) 1):=by
 refine⟨⟨by simp,rfl,by simp,by simp,by simp,by simp[Bw],by simp[Bw],by simp⟩,by simp⟩
theorem aI (l:List Tx) (x:Tx):LL (l++ [x])=(CZ (LL l).1 (LL l).2 x.Recs).getD (LL l):=by unfold LL;grind
theorem ZK (l:List Tx) (hl:l.length<=1048576) (hr:∀x∈l,x.Recs.length<=20000):∃t,Ao (λs:Int×List Vol×List Bz×Int×Int=>DE l s.1 s.2.1 s.2.2.1 s.2.2.2.1 s.2.2.2.2) (0,[],[],1,0)=some (t.Vols,t.Arena.Knots,t.Next,LZ l)/\C9 t/\(Bb t,t.Next)=LL l:=by
 obtain⟨b,h1,t,h2,h3,h4⟩:=AJ (body:=λs:Int×List Vol×List Bz×Int×Int=>DE l s.1 s.2.1 s.2.2.1 s.2.2.2.1 s.2.2.2.2) (λ(o:Store×Int) i=>(i,o.1.Vols,o.1.Arena.Knots,o.1.Next,o.2)) l.length
  (λi o=>C9 o.1/\(Bb o.1,o.1.Next)=LL (l.take i)/\o.2=LZ (l.take i)) (λb=>∃t,b=(t.Vols,t.Arena.Knots,t.Next,LZ l)/\C9 t/\(Bb t,t.Next)=LL l)
  (λo i hi hs=>by
   obtain⟨t,bs0⟩:=o;obtain⟨hP,hv,hb⟩:=hs;simp only at hP hv hb;have hx:=Ab hi;have hm:l[i]∈l:=Az hi;have j:=hr _ hm;have et:l.take (i+1)=l.take i++ [l[i]]:=Al hi;simp only[DE,DW hi,Au,hx,Aa];have f:(cond ((i:Int)==0) (some l[i].Num) (some bs0):Option Int)=some (LZ<|l.take<|i+1):=by
    by_cases e:i=0
    ·subst e;rw[et];simp[LZ]
    rw[show((i:Int)==0)=false by simp;omega,hb,et];simp only[Ac]
    cases h5:l.take i with
    |nil=>
     have:=BT List.length h5
     grind
    |cons a m=>rfl
   rw[f];simp only[Aa];have c:=Yh hP l[i].Recs (by omega);unfold QY at c;have g:Store.mk t.Vols (Arena.mk t.Arena.Knots) t.Next=t:=rfl;have e1:Bb t=(LL<|l.take i).1:=BT Prod.fst hv;have e2:t.Next=(LL<|l.take i).2:=BT Prod.snd hv;rw[g,ad1];refine .inl ?_;have h:=aI (l.take i) l[i];rw[<-et]at h
   cases d:CZ (Bb t) t.Next l[i].Recs with
   |none=>
    rw[d]at c;rw[c];refine⟨(t,LZ<|l.take<|i+1),rfl,hP,?_,rfl⟩
    grind
   |some p=>
    obtain⟨lv,nx⟩:=p;rw[d]at c;obtain⟨u,u1,u2,u3,u4⟩:=c;rw[u1];refine⟨(u,LZ<|l.take<|i+1),rfl,u2,?_,rfl⟩
    grind)
  (λo hs=>⟨(o.1.Vols,o.1.Arena.Knots,o.1.Next,o.2),by simp only[DE,DH],o.1,by grind,hs.1,by grind⟩) (s:=(Store.mk [] (Arena.mk []) 1,0)) ⟨fJ,rfl,rfl⟩
 grind
structure HH (d:Ay) (r:List Aq):Prop where
 fl:BA d.Flash
 scan:eT d.Flash r
 sr:SR (KJ 0 d.Flash.Blocks) r
 st:C9 d.Store
 ab:(Bb d.Store,d.Store.Next)=LL (CS (Bj r))
 seq:d.Seq=CT r
 tx:d.Tx=DO r
 base:d.Base=LZ (CS (Bj r))
theorem HH.pages (h:HH d r):GJ r:=Xc h.scan h.fl
theorem Ry (hr:GJ r):(Bj r).length<=1048576/\∀x∈Bj r,x.Recs.length<=20000:=by
 have b:=hr.len;have a:=GY r λy hy=>(hr.tx y hy).1;have:=List.length_filterMap_le (IR r)<|Dz r;refine⟨by unfold Bj;omega,λx hx=>?_⟩;obtain⟨t,_,ht⟩:=List.mem_filterMap.1 hx;exact(Tk hr ht).2
theorem Tn (l:List Tx):(CS l).length<=l.length/\∀x∈CS l,x∈l:=⟨by unfold CS;grind,λx hx=>List.mem_of_mem_drop hx⟩
theorem VT (hf:BA f):∃d r,C5 f=some (d,true)/\HH d r/\d.Flash=f:=by
 obtain⟨r,hs,a⟩:=ABx hf;have hr:=Xc hs hf;obtain⟨g1,g2⟩:=Ry hr;obtain⟨b1,b2⟩:=Tn<|Bj r;obtain⟨t,t1,t2,t3⟩:=ZK (CS<|Bj r) (by omega) λx hx=>g2 x<|b2 x hx;refine⟨Ay.mk f t (CT r) (DO r)<|LZ<|CS<|Bj r,r,?_,⟨hf,hs,a,t2,t3,rfl,rfl,rfl⟩,rfl⟩;unfold C5;rw[Qx hf,hs.s,CQ f hf.cap];unfold Oq;simp only[Aa,Ag,Ac];rw[VS r hr,Pc r hr];simp only[Aa];rw[Ss _ g1 g2];simp only[Aa];rw[t1];rfl
theorem nI (a b:List Int) (ha:a.length<=1048576):Ml a b=some (decide (a=b)):=by
 unfold Ml;by_cases hl:a.length=b.length
 ·rw[show(ln a !=ln b)=false by simp[ln,hl]];simp only[Ac]
  rw[mA (body:=λs:Int=>GS a b s) a b (λx y=>x==y) hl (by omega)
   (λi x y hx hy=>by
    have hi:=(Af.1 hx).1;simp only[GS,DW hi,Au,hx,hy,Aa];rw[ad1]
    grind)
   (by simp only[GS,DH])]
  have:=YC (p:=λx y:Int=>x==y) (a:=a) (b:=b) (λx _ y _=>by simp) hl
  grind
 rw[show(ln a !=ln b)=true by simp[ln];omega,Ah λhh=>hl<|by rw[hh]];rfl
theorem qE {a b:Store} (ha:C9 a) (hb:C9 b):Pa a b=some (decide (Bb a=Bb b/\a.Next=b.Next)):=by
 have c:=ha.len;have d:=hb.len;have e:=ha.few;have f:=hb.few;unfold Pa;by_cases hl:a.Vols.length=b.Vols.length
 ·rw[show(ln a.Vols !=ln b.Vols)=false by simp[ln,hl]];simp only[Ac,Aa];by_cases hn:a.Next=b.Next
  ·rw[show(a.Next !=b.Next)=false by simp[hn]];simp only[Ac]
   rw[mA (body:=λs:Int=>Iw a b s) a.Vols b.Vols (λv w=>v.Id==w.Id&&decide (Ff a.Arena.Knots v.Root=Ff b.Arena.Knots w.Root)) hl (by omega)
    (λi x y hx hy=>by
     have hi:=(Af.1 hx).1;simp only[Iw,DW hi,Au,hx,hy,Aa];rw[Ot _ (by omega) ha.ar<|ha.root _<|A9.2 ⟨x,Ar hx,rfl⟩,Ot _ (by omega) hb.ar<|hb.root _<|A9.2 ⟨y,Ar hy,rfl⟩];simp only[Aa];rw[nI _ _ (by unfold Ff;simp)];simp only[Aa];rw[ad1]
     grind)
    (by simp only[Iw,DH])]
   have g:(a.Vols.zip b.Vols).all (λz=>z.1.Id==z.2.Id&&decide (Ff a.Arena.Knots z.1.Root=Ff b.Arena.Knots z.2.Root))=decide (Bb a=Bb b):=by
    unfold Bb;generalize a.Vols=l at hl;generalize b.Vols=m at hl
    induction l generalizing m with
    |nil=>cases m with
     |nil=>simp
     |cons y m=>simp at hl
    |cons x l ih=>
     cases m with
     |nil=>simp at hl
     |cons y m=>
      rw[List.zip_cons_cons,EU,ih m (by simpa using hl),Fk];simp
   grind
  grind
 rw[show(ln a.Vols !=ln b.Vols)=true by simp[ln];omega,Ah (λhh=>hl (by have:=BT List.length hh.1;rwa [IL,IL]at this))];rfl
theorem Mx (h:HH d r):PP d=some d:=by
 have:=h.st.len;unfold PP;rw[CQ _ h.fl.cap,Gw _ (Lg h.st.ar (by have:=h.st.few;omega))<|by omega];rfl
theorem HH.uniq (h:HH d r) (h':HH d' r') (e:d.Flash=d'.Flash):r=r':=by
 have h1:=h.sr;have h2:=h'.sr;rw[<-e]at h2;exact h1.uniq h2
theorem QG (h:HH d r):QH d=some true:=by
 obtain⟨m,r',h1,h2,h3⟩:=VT h.fl;obtain rfl:=h.uniq h2 h3.symm;unfold QH;rw[h1];simp only[Aa,Ae];have e:=h2.ab.trans h.ab.symm
 injection e with e1 e2
 rw[qE h2.st h.st,Ad ⟨e1,e2⟩];simp only[Aa,Ae];rw[h2.seq,h.seq,h2.tx,h.tx,h2.base,h.base];simp only[BEq.rfl,Ae];rw[Sr h.st];rfl
theorem bN {l:List α} {f g:α->Option β} (h:∀x∈l,f x=g x):l.filterMap f=l.filterMap g:=by
 induction l with
 |nil=>rfl
 |cons a l ih=>grind
theorem tD {l:List α} {p q:α->Bool} (h:∀x∈l,p x=q x):l.find? p=l.find? q:=by
 induction l with
 |nil=>rfl
 |cons a l ih=>grind
theorem XV (h:∀a b,SY r' t a b=SY r t a b):∀(n:Nat) (a b:Int) (x:List UInt8) (q:Int),parts r' t n a b x q=parts r t n a b x q
 |0,_,_,_,_=>rfl
 |n+1,a,b,x,q=>by
  simp only[parts,h];split
  ·split
   ·rfl
   exact XV h n _ _ _ _
  rfl
theorem U7 (h:∀a b,SY r' t a b=SY r t a b):IR r' t=IR r t:=by
 unfold IR;rw[XV h]
theorem Xm {t a b:Int} (h:qW t a b y=true):y.Page.Kind=2/\y.Page.Tx=t/\y.Page.Part=a:=by
 unfold qW at h
 grind
theorem lT (r m:List Aq) (t a b:Int):SY (r++m) t a b=(SY r t a b).or (SY m t a b):=by unfold SY;grind
theorem Ww {t a b:Int} (h:∀y∈r,y.Page.Kind=2->y.Page.Tx≠t):SY r t a b=none:=by
 unfold SY;rw[Ue];intro y hy hm;obtain⟨h1,h2,_⟩:=Xm hm;exact h y hy h1 h2
theorem wG (h:∀y∈r,y.Page.Kind=2->y.Page.Tx≠t):IR r t=none:=by
 unfold IR;have:parts r t 11 0 0 [] 0=none:=by
  simp only[parts];rw[AF<|.inl trivial,Ww h]
 rw[this]
theorem xG (r:List Aq) (hy:y.Page.Kind≠2):Dz (r++ [y])=Dz r:=by rw[Wf,AG hy]
theorem Yd (r:List Aq) (hy:y.Page.Kind≠2):Bj (r++ [y])=Bj r:=by
 unfold Bj;rw[xG r hy];congr 1;funext t
 refine U7 λa b=>?_
 rw[lT,Ww (r:=[y]) (λz hz hk=>by grind),Option.or_none]
structure iR (m:List Aq) (t:Int) (n:Nat) (texts:List ByteArray):Prop where
 len:m.length<=n
 pos:1<=n/\n<=9
 tl:texts.length=n
 at_:∀(i:Nat) y,m[i]?=some y->y.Page.Kind=2/\y.Page.Tx=t/\y.Page.Part=i/\y.Page.Count=n/\texts[i]?=some y.Page.Text
theorem iR.all (h:iR m t n texts) (hy:y∈m):y.Page.Kind=2/\y.Page.Tx=t:=by
 obtain⟨i,hi,rfl⟩:=A5 hy;obtain⟨h1,h2,_⟩:=h.at_ i _<|Ab hi;exact⟨h1,h2⟩
theorem AAF (r:List Aq) (hr:∀y∈r,1<=y.Page.Tx) (ht:∀y∈r,y.Page.Kind=2->y.Page.Tx<t) (h0:1<=t):∀(m:List Aq),m≠ []->(∀y∈m,y.Page.Kind=2/\y.Page.Tx=t)->Dz (r++m)=Dz r++ [t]:=by
 intro m hm a;have h1:=GY (r++m) (λy hy=>by grind);have h2:=GY r hr
 refine W6 h1.1 ?_ λx=>?_
 ·unfold asc;rw[AO];refine⟨h2.1,Jn _ _,λx hx z hz=>?_⟩
  grind
 rw[h1.2.1,Ap,Bu,h2.2.1];constructor
 ·grind
 rintro(⟨y,hy,hk,rfl⟩|rfl)
 ·grind
 cases m with
 |nil=>exact absurd rfl hm
 |cons y m=>exact⟨y,by simp,(a y<|by simp).1,(a y<|by simp).2⟩
theorem ACJ (h:iR m t n texts) {a:Nat} {b:Int} (hc:a=0\/b=n):SY m t a b=m[a]? :=by
 cases hy:m[a]? with
 |none=>
  unfold SY;rw[Ue];intro y c hm;obtain⟨i,hi,rfl⟩:=A5 c;obtain⟨_,_,h3,_⟩:=h.at_ i _<|Ab hi;have:=(Xm hm).2.2
  grind
 |some y=>
  obtain⟨h1,h2,h3,h4,_⟩:=h.at_ a y hy;refine l9 m _ (λj x hj hx=>?_) hy ?_
  ·obtain⟨_,_,k3,_⟩:=h.at_ j x hx;rw[Bool.eq_false_iff];intro hm;have:=(Xm hm).2.2;omega
  unfold qW
  grind
def Qq (l:List ByteArray):List UInt8:=l.flatMap L
theorem gE (hr:∀y∈r,y.Page.Kind=2->y.Page.Tx≠t) (h:iR m t n texts):∀(k a:Nat) (c:Int) (x:List UInt8) (q:Int) (b:Nat),a+k=n->(a=0\/c=n)->k<b->
  (m.length=n->∃q',parts (r++m) t b a c x q=some (x++Qq (texts.drop a),q'))/\(m.length<n->a<=m.length->parts (r++m) t b a c x q=none)
 |k,a,c,x,q,0,hk,hc,hf=>by omega
 |0,a,c,x,q,b+1,hk,hc,hf=>by
  have hp:=h.pos;simp only[parts];rw[AG<|by omega];refine⟨λ_=>⟨q,?_⟩,λh1 h2=>by omega⟩;rw[EX (by have:=h.tl;omega)];simp[Qq]
 |k+1,a,c,x,q,b+1,hk,hc,hf=>by
  have hp:=h.pos;simp only[parts];rw[AF (by omega),lT,Ww hr,Option.none_or,ACJ h hc]
  cases hy:m[a]? with
  |none=>grind
  |some y=>
   obtain⟨h1,h2,h3,h4,h5⟩:=h.at_ a y hy;have d:=(Af.1 hy).1;simp only[];obtain⟨k1,k2⟩:=gE hr h k (a+1) y.Page.Count (x++L y.Page.Text) (QT a q y) b (by omega) (.inr h4) (by omega);rw[show((a+1:Nat):Int)=(a:Int)+1 from rfl]at k1 k2;refine⟨λh6=>?_,λh6 h7=>k2 h6<|by omega⟩;obtain⟨q',k3⟩:=k1 h6;refine⟨q',?_⟩
   rw[k3,show texts.drop a=y.Page.Text::texts.drop (a+1) by
    have h8:=(Af.1 h5)
    rw[AK h8.1,h8.2]]
   simp only[Qq,K0,AE]
theorem s8 (r:List Aq) (hr:∀y∈r,1<=y.Page.Tx) (ht:∀y∈r,y.Page.Kind=2->y.Page.Tx<t) (h0:1<=t) (h:iR m t n texts):
  (m.length<n->Bj (r++m)=Bj r)/\(m.length=n->∀a,f9 (bs (Qq texts))=some a->∃q,Bj (r++m)=Bj r++ [Tx.mk t q a]):=by
 have b:∀y∈r,y.Page.Kind=2->y.Page.Tx≠t:=λy hy hk=>by grind
 have old:∀x∈Dz r,IR (r++m) x=IR r x:=by
  intro x hx;have:=GY r hr;obtain⟨y,hy,hk,rfl⟩:=(this.2.1 x).1 hx;have:=ht y hy hk
  refine U7 λd f=>?_
  rw[lT,Ww (r:=m) (λz hz g=>by rw[(h.all hz).2];omega),Option.or_none]
 have oldG:(Dz r).filterMap (IR<|r++m)=Bj r:=by
  unfold Bj;exact bN old
 by_cases hm:m=[]
 ·subst hm;have:=h.pos
  grind
 have c:=AAF r hr ht h0 m hm λy hy=>h.all hy;have hg:Bj (r++m)=Bj r++(match IR (r++m) t with|some x=>[x]|none=>[]):=by
  have:Bj (r++m)=(Dz<|r++m).filterMap (IR<|r++m):=rfl
  grind
 have hp:=h.pos;obtain⟨p1,p2⟩:=gE b h n 0 0 [] 0 11 (by omega) (.inl rfl) (by omega);refine⟨λh1=>?_,λh1 a e=>?_⟩
 ·have:IR (r++m) t=none:=by
   unfold IR
   grind
  grind
 obtain⟨q,p3⟩:=p1 h1;rw[show((0:Nat):Int)=0 from rfl]at p3;have:IR (r++m) t=some (Tx.mk t q a):=by
  unfold IR
  grind
 grind
structure qJ (r:List Aq):Prop where
 uniq:∀y∈r,∀z∈r,y.Page.Kind=2->z.Page.Kind=2->y.Page.Tx=z.Page.Tx->y.Page.Part=z.Page.Part->y=z
theorem tC (h:qJ r) (p:Aq->Bool) {t a b:Int} (hf:SY (r.filter p) t a b=some y):SY r t a b=some y:=by
 obtain⟨h1,h2⟩:=SX hf;have h3:=(Be.1 h1).1
 cases hz:SY r t a b with
 |none=>
  unfold SY at hz
  grind
 |some z=>
  obtain⟨k1,k2⟩:=SX hz;obtain⟨a1,a2,a3⟩:=Xm h2;obtain⟨b1,b2,b3⟩:=Xm k2;rw[h.uniq z k1 y h3 b1 a1 (by rw[a2,b2])<|by rw[a3,b3]]
theorem Wd (h:qJ r) (p:Aq->Bool):∀(n:Nat) (a b:Int) (x:List UInt8) (q:Int) (w:List UInt8×Int),parts (r.filter p) t n a b x q=some w->parts r t n a b x q=some w
 |0,_,_,_,_,_,hw=>by cases hw
 |n+1,a,b,x,q,w,hw=>by
  simp only[parts]at hw⊢;split
  ·rename_i hc;rw[AF hc]at hw
   cases hf:SY (r.filter p) t a b with
   |none=>grind
   |some y=>
    rw[hf]at hw;rw[tC h p hf];exact Wd h p n _ _ _ _ w hw
  grind
theorem m7 (h:qJ r) (p:Aq->Bool) (hx:IR (r.filter p) t=some x):IR r t=some x:=by
 unfold IR at hx⊢
 cases hp:parts (r.filter p) t 11 0 0 [] 0 with
 |none=>grind
 |some w=>
  rw[hp]at hx;rw[Wd h p _ _ _ _ _ w hp];exact hx
theorem s9 (r:List Aq) (hr:GJ r):(Bj r).Pairwise λx y=>x.Num<y.Num:=by
 have h1:=(GY r λy hy=>(hr.tx y hy).1).1;unfold Bj;rw[List.pairwise_filterMap];refine List.Pairwise.imp ?_ h1;intro a b c x hx y hy;rw[(Tk hr hx).1,(Tk hr hy).1];exact c
theorem Wy (l:List α) (f:α->Option β) (q:β->Bool):(l.filterMap f).filter q=l.filterMap (λa=>(f a).filter q):=by
 induction l with
 |nil=>rfl
 |cons a l ih=>grind
theorem i8 (r:List Aq) (hr:GJ r) (h:qJ r) (p:Aq->Bool) (hp:∀y∈r,y.Page.Kind=2->LZ (CS (Bj r))<=y.Page.Tx->p y=true):CS (Bj (r.filter p))=CS (Bj r):=by
 have hr':GJ (r.filter p):=⟨by have:=BG p r;have:=hr.len;omega,λy hy=>hr.text y (Be.1 hy).1,λy hy=>hr.seq y (Be.1 hy).1,λy hy=>hr.tx y (Be.1 hy).1,λy hy=>hr.cnt y (Be.1 hy).1,λy hy=>hr.part y (Be.1 hy).1⟩;have s1:=GY r λy hy=>(hr.tx y hy).1;have s2:=GY (r.filter p) λy hy=>(hr'.tx y hy).1;have e1:Bj (r.filter p)=(Dz r).filterMap (IR<|r.filter p):=by
  have hn:Dz (r.filter p)=(Dz r).filter (λt=>decide<|t∈Dz (r.filter p)):=by
   refine W6 s2.1 (List.Pairwise.filter _ s1.1) λx=>?_
   grind
  unfold Bj
  conv=>lhs;rw[hn]
  rw[List.filterMap_filter]
  refine bN λt ht=>?_
  by_cases e:t∈Dz (r.filter p)
  ·grind
  rw[AG<|by simpa using e];symm
  refine wG λy hy hk c=>e<|(s2.2.1 t).2 ⟨y,hy,hk,c⟩
 have keep:∀t,LZ (CS<|Bj r)<=t->IR (r.filter p) t=IR r t:=by
  intro t ht
  refine U7 λpart cnt=>?_
  unfold SY;rw[List.find?_filter]
  refine tD λy hy=>?_
  cases hm:qW t part cnt y with
  |false=>simp
  |true=>
   obtain⟨a1,a2,_⟩:=Xm hm
   grind
 have e2:Bj (r.filter p)=(Bj r).filter λx=>(IR (r.filter p) x.Num).isSome:=by
  rw[e1];unfold Bj;rw[Wy]
  refine bN λt ht=>?_
  cases hx:IR (r.filter p) t with
  |some x=>
   have h1:=m7 h p hx;rw[h1];have h2:=(Tk hr h1).1
   grind
  |none=>
   cases hy:IR r t with
   |none=>rfl
   |some x=>
    have h2:=(Tk hr hy).1
    grind
 obtain⟨A,h1,h2,h3⟩:=nC<|Bj r;have a:=s9 r hr;have hB:(CS<|Bj r).filter (λx=>(IR (r.filter p) x.Num).isSome)=CS (Bj r):=by
  rw[GK];intro x hx;have d:=(Tn<|Bj r).2 x hx;obtain⟨t,_,ht⟩:=List.mem_filterMap.1 d;have hn:=(Tk hr ht).1;have g:LZ (CS<|Bj r)<=x.Num:=by
   rw[h1,AO]at a
   cases hb:CS (Bj r)with
   |nil=>grind
   |cons b B=>
    have f:=a.2.1;rw[hb,Cv]at f;rw[hb,DN]at hx;simp only[LZ]
    grind
  grind
 rw[e2]
 conv=>lhs;rw[h1]
 rw[AI,hB];refine zW _ _ (λi=>h2 λhA=>?_) h3
 grind
theorem Xv:∀n:Nat,∃ds x,Cr n=ds++ [x]/\(∀d∈ds,128<=d.toNat)/\x.toNat<128/\FE (Cr n)=n
 |n=>by
  by_cases h:n<=127
  ·rw[LU h];have:(UInt8.ofNat n).toNat=n:=by rw[Hj];omega
   exact⟨[],_,rfl,by simp,by omega,by simp only[FE];omega⟩
  obtain⟨ds,x,h1,h2,h3,h4⟩:=Xv<|n/128;rw[Tc h];have e:(UInt8.ofNat<|n %128+128).toNat=n %128+128:=by rw[Hj];omega
  refine⟨UInt8.ofNat (n %128+128)::ds,x,by rw[h1];rfl,?_,h3,?_⟩
  ·grind
  simp only[FE];omega
termination_by n=>n
decreasing_by omega
theorem IK (h:n<=1000000000):1<=(Cr n).length/\(Cr n).length<=5:=by
 have a:∀(k n:Nat),n<128^(k+1)->(Cr n).length<=k+1:=by
  intro k
  induction k with
  |zero=>intro n hn;rw[LU<|by omega];simp
  |succ k ih=>
   intro n hn;by_cases h:n<=127
   ·grind
   rw[Tc h,AA]
   grind
 refine⟨?_,a 4 n<|by omega⟩;obtain⟨ds,x,h1,_⟩:=Xv n;rw[h1];simp
theorem qF (t:ByteArray) (ht:(L t).length<=20000) (a n:Nat) (hn:n<=1000000000) (rest:List UInt8) (h:(L t).drop a=Cr n++rest):Kk t (a:Int)=some ((n:Int),((a+(Cr n).length:Nat):Int),true):=by
 obtain⟨ds,x,hD,q,hx,hv⟩:=Xv n;obtain⟨h1,h2⟩:=IK hn;have z:(L t).length-a=(Cr n).length+rest.length:=by
  have:=BT List.length h
  grind
 have h3:(Cr n).length=ds.length+1:=by rw[hD];simp
 have f:∀k,k<=(Cr n).length->((L t).drop a).take k=(Cr n).take k:=λk hk=>by grind
 have r:∀(m k:Nat),k+m=ds.length->Ao (λs:Int×Int×Int=>DJ t (a:Int) s.1 s.2.1 s.2.2) (((FE ((Cr n).take k):Nat):Int),((128^k:Nat):Int),((a+k:Nat):Int))=some (.inr ((n:Int),((a+(Cr n).length:Nat):Int),true)):=by
  intro m
  induction m with
  |zero=>
   intro k hk;have j:k=ds.length:=by omega
   suffices d:DJ t (a:Int) ((FE ((Cr n).take k):Nat):Int) ((128^k:Nat):Int) ((a+k:Nat):Int)=some (.inr<|.inr ((n:Int),((a+(Cr n).length:Nat):Int),true)) by
    rw[Aw];simp only[d]
   simp only[DJ];have e:a+k<(L t).length:=by omega
   rw[Cp (b:=5) (by omega) (by omega),B3,Ad (by omega:((a+k:Nat):Int)<(a:Int)+5),Ad (by omega:((a+k:Nat):Int)<((L t).length:Int))];simp only[Ae,Aa,Fs t e];have hb:(L t)[a+k]=x:=by
    have:((L t).drop a)[k]?=some x:=by
     rw[h,hD,Cg (by simp;omega),j,B8<|Ax _,Nat.sub_self];rfl
    grind
   rw[hb];have c:=OR ds [x];rw[<-hD,hv]at c;have u:(Cr n).take k=ds:=by grind
   rw[u];simp only[FE,Nat.mul_zero,OO]at c;have hp:=kE k (by omega);have hw:IntKind.i64.wrap (x.toNat:Int)=x.toNat:=P2 (by omega) (by omega);have l:x.toNat %128*128^k<=127*268435456:=eV (by omega) hp;have emul:ml ((x.toNat %128:Nat):Int) ((128^k:Nat):Int)=((x.toNat %128*128^k:Nat):Int):=by
    have ec:((x.toNat %128:Nat):Int)*((128^k:Nat):Int)=((x.toNat %128*128^k:Nat):Int):=by norm_cast
    rw[Qc (by rw[ec];omega) (by rw[ec];omega),ec]
   have g:=YG ds;rw[<-j]at g c;have enew:ad ((FE ds:Nat):Int) ((x.toNat %128*128^k:Nat):Int)=(n:Int):=by
    rw[Cp,c,Nat.mul_comm<|128^k];omega
   rw[hw,iY,emul,enew,Ad (by omega:(x.toNat:Int)<128),Ah (by omega:¬(n:Int)>1000000000),ad1];simp only[Ae,Ac];obtain⟨s,v,w⟩:=Jc n (by omega);rw[Ft t (by omega) (by omega),v];simp only[Aa];have h0:seq s (t.extract a<|a+k+1)=true:=by
    rw[RL,w,Ie,show a+k+1-a=k+1 by omega,f _ (by omega),AL<|by omega];simp
   grind
  |succ m ih=>
   intro k hk;suffices d:DJ t (a:Int) ((FE ((Cr n).take k):Nat):Int) ((128^k:Nat):Int) ((a+k:Nat):Int)=some (.inl (((FE ((Cr n).take<|k+1):Nat):Int),((128^(k+1):Nat):Int),((a+(k+1):Nat):Int))) by
    rw[Aw]
    grind
   simp only[DJ];have e:a+k<(L t).length:=by omega
   rw[Cp (b:=5) (by omega) (by omega),B3,Ad (by omega:((a+k:Nat):Int)<(a:Int)+5),Ad (by omega:((a+k:Nat):Int)<((L t).length:Int))];simp only[Ae,Aa,Fs t e];have i:k<ds.length:=by omega
   have y:(Cr n)[k]?=some ds[k]:=by rw[hD,Cg i,Ab i]
   have hb:(L t)[a+k]=ds[k]:=by
    have:((L t).drop a)[k]?=some ds[k]:=by grind
    rw[Hk,Ab e]at this;injection this
   rw[hb];have h128:=q _<|Az i;have hx:=m6 ds[k];have o:(Cr n).take (k+1)=(Cr n).take k++ [ds[k]]:=by rw[DX,y];rfl
   have p:((Cr n).take k).length=k:=by rw[B4];omega
   have c:=OR ((Cr n).take k) [ds[k]];rw[<-o,p]at c;have g:=YG<|(Cr n).take k;rw[p]at g;have hp:=kE k (by omega);generalize ds[k]=x at hx o c h128;simp only[FE,Nat.mul_zero,OO]at c;have hw:IntKind.i64.wrap (x.toNat:Int)=x.toNat:=P2 (by omega) (by omega);have l:x.toNat %128*128^k<=127*268435456:=eV (by omega) hp;have emul:ml ((x.toNat %128:Nat):Int) ((128^k:Nat):Int)=((x.toNat %128*128^k:Nat):Int):=by
    have ec:((x.toNat %128:Nat):Int)*((128^k:Nat):Int)=((x.toNat %128*128^k:Nat):Int):=by norm_cast
    rw[Qc (by rw[ec];omega) (by rw[ec];omega),ec]
   have enew:ad (((FE ((Cr n).take k):Nat)):Int) ((x.toNat %128*128^k:Nat):Int)=((FE ((Cr n).take<|k+1):Nat):Int):=by
    rw[Cp,c,Nat.mul_comm<|128^k];omega
   have e1:ml ((128^k:Nat):Int) 128=((128^(k+1):Nat):Int):=by
    rw[Qc (by omega) (by omega),tZ];norm_cast
   rw[hw,iY,emul,enew,Ah (by omega:¬(x.toNat:Int)<128),e1,ad1];rfl
 unfold Kk;rw[B3,Ey,Ad<|by omega];simp only[Aa,Ag,Ac];have k0:=r ds.length 0 (by omega);simp only[Jm,FE,Nat.pow_zero,OO]at k0
 grind
theorem LM (t:ByteArray) (ht:(L t).length<=20000) (a n:Nat) (hn:n<=1000000000) (rest:List UInt8) (h:(L t).drop a=Cr n++rest):Dl (Ex.mk t (a:Int) false)=some ((n:Int),Ex.mk t ((a+(Cr n).length:Nat):Int) false):=by
 rw[Ko t _ ht<|qF t ht a n hn rest h];rfl
def r6 (r:C3):List UInt8:=UInt8.ofNat (16*r.Kind+r.Vol).toNat::(Cr r.Arg.toNat++Cr r.Chunk.toNat)
theorem j9 {r:C3} (h:GM r=true):1<=r.Kind/\r.Kind<=5/\0<=r.Vol/\r.Vol<=9/\0<=r.Arg/\r.Arg<=1000000000/\0<=r.Chunk/\r.Chunk<=1000000000:=by
 unfold GM at h
 cases k1:(r.Kind==1)with
 |true=>grind
 |false=>
  rw[k1]at h
  grind
theorem jN {r:C3} (h:GM r=true):∃t,NP r=some (t,true)/\L t=r6 r:=by
 obtain⟨h1,h2,h3,h4,h5,h6,h7,h8⟩:=j9 h;obtain⟨sa,a1,a2⟩:=Jc r.Arg.toNat (by omega);obtain⟨sc,c1,c2⟩:=Jc r.Chunk.toNat (by omega);rw[AU h5]at a1;rw[AU h7]at c1;unfold NP Kg;rw[NQ,h];simp only[Aa,Ag,Ac];rw[Qc (by omega) (by omega),Cp,a1];simp only[Aa];have l1:=(IK<|show r.Arg.toNat<=1000000000 by omega).2;have l2:=(IK<|show r.Chunk.toNat<=1000000000 by omega).2;have hb:∀x,(L<|Fu [x]).length=1:=Sf;rw[Ga _ _ (by rw[hb,a2];omega),c1];simp only[Aa];rw[Ga _ _ (by rw[DS,Ak,hb,a2,c2];omega)];simp only[Aa];refine⟨_,rfl,?_⟩;rw[DS,DS,Md,a2,c2];unfold r6;have hw:IntKind.u8.wrap (16*r.Kind+r.Vol)=16*r.Kind+r.Vol:=by
  rw[IntKind.wrap_u8];omega
 grind
def I3 (l:List C3):List UInt8:=l.flatMap r6
theorem AAl {r:C3} (h:GM r=true):3<=(r6 r).length/\(r6 r).length<=11:=by
 obtain⟨h1,h2,h3,h4,h5,h6,h7,h8⟩:=j9 h;have l1:=IK (show r.Arg.toNat<=1000000000 by omega);have l2:=IK (show r.Chunk.toNat<=1000000000 by omega);unfold r6
 grind
theorem f8 (t:ByteArray) (ht:(L t).length<=20000):∀(l:List C3) (a:Nat) (b:List C3),(∀r∈l,GM r=true)->(L t).drop a=I3 l->a<=(L t).length->b.length<=a->Ao (λs:List C3×ByteArray×Int×Bool=>EB t s.1 s.2.1 s.2.2.1 s.2.2.2) (b,t,(a:Int),false)=some (.inl (b++l))
 |[],a,b,hl,h,ha,ho=>by
  have:(L t).length=a:=by
   have:=BT List.length h;rw[Dc]at this;simp[I3]at this;omega
  rw[Aw];simp only[EB];rw[B3,Ah (by omega),A8];rfl
 |r::l,a,b,hl,h,ha,ho=>by
  have hr:=hl r (by simp);obtain⟨h1,h2,h3,h4,h5,h6,h7,h8⟩:=j9 hr;have h':(L t).drop a=UInt8.ofNat (16*r.Kind+r.Vol).toNat::(Cr r.Arg.toNat++(Cr r.Chunk.toNat++I3 l)):=by
   rw[h];simp only[I3,K0,r6,BB,AE]
  have c:a<(L t).length:=by grind
  have d:=AK c;rw[h']at d
  injection d with hx hd
  rw[Aw];simp only[EB];rw[B3,Ad<|by omega];simp only[Ae,Aa,AN];rw[Fs t c,ad1,Aa,LM t ht (a+1) r.Arg.toNat (by omega) _ hd.symm];simp only[Aa];have e:(L t).drop (a+1+(Cr r.Arg.toNat).length)=Cr r.Chunk.toNat++I3 l:=by
   rw[<-CB,<-hd,GA rfl]
  rw[LM t ht _ r.Chunk.toNat (by omega) _ e];simp only[Aa,Ac];have hw:IntKind.i64.wrap (((L t)[a]).toNat:Int)=16*r.Kind+r.Vol:=by
   rw[<-hx,Hj,P2 (by omega)<|by omega];omega
  have e1:qu (IntKind.i64.wrap (((L t)[a]).toNat:Int)) 16=r.Kind:=by
   rw[hw];unfold qu;rw[Int.tdiv_eq_ediv_of_nonneg (by omega),P2 (by omega)<|by omega];omega
  have e2:Int.tmod (IntKind.i64.wrap (((L t)[a]).toNat:Int)) 16=r.Vol:=by grind
  rw[e1,e2,AU h5,AU h7];have f:C3.mk r.Kind r.Vol r.Arg r.Chunk=r:=rfl;rw[f,NQ,hr];simp only[Aa,Ag,Ac];rw[BD<|by grind];simp only[Aa];have l1:=IK (show r.Arg.toNat<=1000000000 by omega);have l2:=IK (show r.Chunk.toNat<=1000000000 by omega);have g:(L t).drop (a+1+(Cr r.Arg.toNat).length+(Cr r.Chunk.toNat).length)=I3 l:=by
   rw[<-CB,e,GA rfl]
  have i:a+1+(Cr r.Arg.toNat).length+(Cr r.Chunk.toNat).length<=(L t).length:=by
   have h9:=BT List.length h'
   grind
  have:=f8 t ht l _ (b++ [r]) (λx hx=>hl x<|by simp[hx]) g i (by simp;omega);rw[AE,F5]at this;exact this
theorem rZ {l:List C3} (hl:∀r∈l,GM r=true) (a:(I3 l).length<=20000):f9 (bs (I3 l))=some l:=by
 have h:=f8 (bs<|I3 l) (by rw[ET];exact a) l 0 [] hl (by rw[ET];rfl) (by omega) (by simp);unfold f9 Ix
 grind
theorem tR {v:Int} (u:ByteArray) (hu:(L u).length<=20000) (hv:OX u=some v):LA (u++four v)=some (u,true):=by
 have a:(L<|u++four v).length=(L u).length+4:=by rw[DS,Ak,Wv]
 have e4:sb (FU<|u++four v) 4=((L u).length:Int):=by rw[B3,a,Cm];omega
 unfold LA;rw[e4,Ah (by omega),Ah<|by omega];simp only[Ac];have c:sub (u++four v) 0 ((L u).length:Int)=some u:=by
  rw[show(0:Int)=((0:Nat):Int)from rfl,Ft _ (by omega)<|by omega];congr 1;apply Lk;rw[Ie,DS];simp
 have b:sub (u++four v) ((L u).length:Int) (FU<|u++four v)=some (four v):=by
  rw[B3,Ft _ (by omega)<|by omega];congr 1;apply Lk;rw[Ie,a,DS,GA rfl,AL (by rw[Wv];omega)]
 rw[c,b];simp only[Aa];rw[hv];have h3:L8 v=some (four v):=rfl;simp only[Aa,h3];have:seq (four v) (four v)=true:=by rw[JU];simp
 rw[this];rfl
def JA (p:Page):Prop:=(p.Kind=1\/p.Kind=2)/\(1<=p.Seq/\p.Seq<=1000000000)/\(1<=p.Tx/\p.Tx<=1000000000)/\(1<=p.Count/\p.Count<=9)/\(0<=p.Part/\p.Part<p.Count)/\(L p.Text).length<=90/\(p.Kind=2\/p.Count=1)
theorem UH (p:Page):∃v,KC p=some v/\(v=true↔JA p):=by
 unfold KC JA;rw[Ey,Ey,Ey,Ey,B3];simp only[Aa];by_cases h1:1<=p.Kind/\p.Kind<=2
 ·rw[Ad h1];by_cases h2:1<=p.Seq/\p.Seq<=1000000000
  ·rw[Ad h2];by_cases h3:1<=p.Tx/\p.Tx<=1000000000
   ·rw[Ad h3];by_cases h4:1<=p.Count/\p.Count<=9
    ·rw[Ad h4];simp only[Ag,Ac];rw[Cm,Ey];simp only[Aa];by_cases h5:0<=p.Part/\p.Part<=p.Count-1
     ·rw[Ad h5];simp only[Ag,Ac,Aa];by_cases h6:((L p.Text).length:Int)>90
      ·rw[Ad h6]
       grind
      rw[Ah h6];simp only[Ac];by_cases h7:p.Kind=2
      ·rw[show(p.Kind==2)=true by simpa using h7]
       grind
      rw[show(p.Kind==2)=false by simpa using h7]
      grind
     rw[Ah h5];exact⟨_,rfl,by grind⟩
    rw[Ah h4];exact⟨_,rfl,by grind⟩
   rw[Ah h3];exact⟨_,rfl,by grind⟩
  rw[Ah h2];exact⟨_,rfl,by grind⟩
 rw[Ah h1];exact⟨_,rfl,by grind⟩
theorem AAw (h:JA p):KC p=some true:=by
 obtain⟨v,h1,h2⟩:=UH p;rw[h1,h2.2 h]
theorem wW (h:JA p):∃t,Ev p=some (t,true)/\1<=(L t).length/\(L t).length<=120/\FM t=some (p,true):=by
 obtain⟨h1,h2,h3,h4,h5,h6,h7⟩:=h
 let k:UInt8:=UInt8.ofNat p.Kind.toNat
 have hk:(k.toNat:Int)=p.Kind:=by
  show((UInt8.ofNat p.Kind.toNat).toNat:Int)=p.Kind;rw[Hj];omega
 let u:=bs<|[k]++Cr p.Seq.toNat++Cr p.Tx.toNat++Cr p.Part.toNat++Cr p.Count.toNat++L p.Text
 have hu:L u=[k]++Cr p.Seq.toNat++Cr p.Tx.toNat++Cr p.Part.toNat++Cr p.Count.toNat++L p.Text:=ET _;have l1:=IK (show p.Seq.toNat<=1000000000 by omega);have l2:=IK (show p.Tx.toNat<=1000000000 by omega);have l3:=IK (show p.Part.toNat<=1000000000 by omega);have l4:=IK (show p.Count.toNat<=1000000000 by omega);have e:(L u).length=1+(Cr p.Seq.toNat).length+(Cr p.Tx.toNat).length+(Cr p.Part.toNat).length+(Cr p.Count.toNat).length+(L p.Text).length:=by
  rw[hu];simp only[Ak,Bg]
 have l5:(L u).length<=116:=by omega
 obtain⟨v,hv,hs⟩:=(TP u).2 (by omega);have c:=AAw ⟨h1,h2,h3,h4,h5,h6,h7⟩;have a:=Yv p u k p.Seq.toNat p.Tx.toNat p.Part.toNat p.Count.toNat c hk.symm (by omega) (by omega) (by omega) (by omega) (by omega) (by omega) (by omega) (by omega) (by omega) hu;rw[hs]at a;refine⟨u++four v,a,by rw[DS,Ak];omega,by rw[DS,Ak,Wv];omega,?_⟩;unfold FM;rw[tR u (by omega) hv];simp only[Aa,Ag,Ac];rw[B3,Ah<|by omega];have d0:(L u).drop 1=Cr p.Seq.toNat++(Cr p.Tx.toNat++(Cr p.Part.toNat++(Cr p.Count.toNat++L p.Text))):=by
  rw[hu];simp
 rw[show(1:Int)=((1:Nat):Int)from rfl,LM u (by omega) 1 p.Seq.toNat (by omega) _ d0];simp only[Aa];have d1:(L u).drop (1+(Cr p.Seq.toNat).length)=Cr p.Tx.toNat++(Cr p.Part.toNat++(Cr p.Count.toNat++L p.Text)):=by rw[<-CB,d0,GA rfl]
 rw[LM u (by omega) _ p.Tx.toNat (by omega) _ d1];simp only[Aa];have d2:(L u).drop (1+(Cr p.Seq.toNat).length+(Cr p.Tx.toNat).length)=Cr p.Part.toNat++(Cr p.Count.toNat++L p.Text):=by rw[<-CB,d1,GA rfl]
 rw[LM u (by omega) _ p.Part.toNat (by omega) _ d2];simp only[Aa];have d3:(L u).drop (1+(Cr p.Seq.toNat).length+(Cr p.Tx.toNat).length+(Cr p.Part.toNat).length)=Cr p.Count.toNat++L p.Text:=by rw[<-CB,d2,GA rfl]
 rw[LM u (by omega) _ p.Count.toNat (by omega) _ d3];simp only[Aa,Ac];have d4:(L u).drop (1+(Cr p.Seq.toNat).length+(Cr p.Tx.toNat).length+(Cr p.Part.toNat).length+(Cr p.Count.toNat).length)=L p.Text:=by rw[<-CB,d3,GA rfl]
 have d:sx u 0=some ((k.toNat:Nat):Int):=by
  rw[show(0:Int)=((0:Nat):Int)from rfl,Fs u<|by omega];rfl
 rw[d];simp only[Aa];have b:sub u ((1+(Cr p.Seq.toNat).length+(Cr p.Tx.toNat).length+(Cr p.Part.toNat).length+(Cr p.Count.toNat).length:Nat):Int) ((L u).length:Int)=some p.Text:=by
  rw[Ft u (by omega)<|by omega];congr 1;apply Lk;rw[Ie,d4,AL<|by omega]
 rw[b,Aa,P2 (by omega) (by omega),hk,AU (by omega),AU (by omega),AU (by omega),AU<|by omega];have hp:Page.mk p.Kind p.Seq p.Tx p.Part p.Count p.Text=p:=rfl;rw[hp,a];simp only[Aa,Ag,Ac];have:seq (u++four v) (u++four v)=true:=by rw[JU];simp
 rw[this];rfl
theorem AAv (h:¬JA p):Ev p=some (bs [],false):=by
 obtain⟨v,h1,h2⟩:=UH p;unfold Ev
 grind
theorem wM (s:ByteArray) (f a:Nat) (hf:f<a) (ha:a<=(L s).length) (hs:(L s).length<=64):∃k:Nat,Oo s (f:Int) (a:Int)=some (k:Int)/\k<=31/\a+k<=(L s).length/\∀j,j<k->(L s)[f+j]?=(L s)[a+j]? :=by
 obtain⟨b,h1,k,rfl,h2,h3,h4⟩:=AJ (body:=λn:Int=>J4 s (f:Int) (a:Int) n) (λ(_:Unit) i=>i) 31 (λi _=>a+i<=(L s).length/\∀j,j<i->(L s)[f+j]?=(L s)[a+j]?) (λb=>∃k:Nat,b=(k:Int)/\k<=31/\a+k<=(L s).length/\∀j,j<k->(L s)[f+j]?=(L s)[a+j]?)
  (λ_ i hi hs=>by
   simp only[J4];rw[cT,Cp,Cp,B3];by_cases c:a+i<(L s).length
   ·rw[cT];have e1:((f:Int)+(i:Int))=((f+i:Nat):Int):=by omega
    have e2:((a:Int)+(i:Int))=((a+i:Nat):Int):=by omega
    rw[e1,e2,Fs s (by omega),Fs s c];simp only[Aa]
    cases hq:((((L s)[f+i]).toNat:Int)==(((L s)[a+i]).toNat:Int))with
    |true=>
     simp only[Ae];rw[ad1];refine .inl ⟨(),rfl,by omega,λj hj=>?_⟩;by_cases e:j=i
     ·subst e;rw[Ab (by omega),Ab c];congr 1;apply UInt8.toNat_inj.1
      grind
     grind
    |false=>grind
   grind)
  (λ_ hs=>by
   simp only[J4];rw[cF]
   exact⟨_,rfl,31,rfl,by omega,hs.1,hs.2⟩) (s:=()) ⟨by omega,λj hj=>by omega⟩
 refine⟨k,?_,h2,h3,h4⟩;unfold Oo
 grind
def ABq (s:ByteArray) (a z b:Nat):Prop:=z<=31/\a+z<=(L s).length/\(z=0\/(4<=z/\1<=b/\b<=a/\∀j,j<z->(L s)[a-b+j]?=(L s)[a+j]?))
theorem AAb (s:ByteArray) (a:Nat) (ha:a<=(L s).length) (hs:(L s).length<=64):∃z b:Nat,Ao (λq:Int×Int×Int=>E9 s (a:Int) q.1 q.2.1 q.2.2) (0,0,sb (a:Int) 1)=some ((z:Int),(b:Int))/\ABq s a z b:=by
 rw[Cm];obtain⟨r,h1,z,b,rfl,h2⟩:=AJ (body:=λq:Int×Int×Int=>E9 s (a:Int) q.1 q.2.1 q.2.2) (λ(q:Nat×Nat) i=>((q.1:Int),(q.2:Int),(a:Int)-1-i)) a (λi q=>ABq s a q.1 q.2) (λr=>∃z b:Nat,r=((z:Int),(b:Int))/\ABq s a z b)
  (λq i hi hq=>by
   obtain⟨k,m1,m2,m3,m4⟩:=wM s (a-1-i) a (by omega) ha hs;have e1:((a:Int)-1-(i:Int))=((a-1-i:Nat):Int):=by omega
   simp only[E9,e1];rw[Ad (by omega:(((a-1-i:Nat)):Int)>=0),Ae,m1,Aa,Cm,Cm];refine .inl ?_;have e2:(((a-1-i:Nat):Int)-1)=(a:Int)-1-((i+1:Nat):Int):=by omega
   have e3:((a:Int)-((a-1-i:Nat):Int))=((1+i:Nat):Int):=by omega
   rw[e2,e3];by_cases h4:4<=k
   ·rw[cT];by_cases h5:q.1<k
    ·rw[Ad (by omega:(k:Int)>(q.1:Int))];exact⟨(k,1+i),rfl,m2,m3,.inr ⟨h4,by omega,by omega,λj hj=>by grind⟩⟩
    grind
   grind)
  (λq hq=>by
   simp only[E9]
   grind) (s:=(0,0)) ⟨by omega,by omega,.inl rfl⟩
 grind
def W2:Nat->Nat->List UInt8->List UInt8
 |0,_,out=>out
 |n+1,b,out=>W2 n b (out++ [(out[out.length-b]?).getD 0])
def Xr (a:List UInt8) (t:AZ):List UInt8:=if t.Back=0 then a++L t.Text else W2 t.Size.toNat t.Back.toNat a
def FO (l:List AZ):List UInt8:=l.foldl Xr []
def okT (a:List UInt8) (t:AZ):Prop:=(t.Back=0/\t.Size=0/\1<=(L t.Text).length/\(L t.Text).length<=31)\/(1<=t.Back/\t.Back<=(a.length:Int)/\1<=t.Size/\t.Size<=31/\L t.Text=[])
def okL (l:List AZ):Prop:=∀(i:Nat) t,l[i]?=some t->okT (FO<|l.take i) t
theorem PV (l:List AZ) (t:AZ):FO (l++ [t])=Xr (FO l) t:=by unfold FO;grind
theorem kJ {t:AZ} (h:okL l) (ht:okT (FO l) t):okL (l++ [t]):=by
 intro i x hx;by_cases e:i<l.length
 ·rw[Cg e]at hx;rw[List.take_append_of_le_length<|by omega];exact h i x hx
 grind
theorem AAD {t:AZ} (h:okL (l++ [t])):okL l/\okT (FO l) t:=by
 refine⟨λi x hx=>?_,?_⟩
 ·have hi:=(Af.1 hx).1;have:=h i x (by grind)
  grind
 have:=h l.length t<|by grind
 grind
theorem iD (S:List UInt8):∀(n a b:Nat),a+n<=S.length->1<=b->b<=a->(∀j,j<n->S[a-b+j]?=S[a+j]?)->W2 n b (S.take a)=S.take (a+n)
 |0,a,b,_,_,_,_=>rfl
 |n+1,a,b,h1,h2,h3,h4=>by
  rw[W2];have hl:(S.take a).length=a:=by grind
  have e:((S.take a)[(S.take a).length-b]?).getD 0=S[a]'(by omega):=by
   rw[hl,List.getElem?_take_of_lt<|by omega];have:=h4 0<|by omega
   grind
  rw[e,<-Al (by omega),iD S n (a+1) b (by omega) h2 (by omega) λj hj=>by grind];congr 1;omega
theorem pP:∀(n b:Nat) (a:List UInt8),(W2 n b a).length=a.length+n
 |0,_,_=>rfl
 |n+1,b,a=>by rw[W2,pP];simp;omega
theorem V7 (s:ByteArray) (hs:(L s).length<=64):∀(n a:Nat) (c:List AZ),(L s).length-a<=n->a<=(L s).length->c.length<=a->okL c->FO c=(L s).take a->∃l,Ao (λq:List AZ×Int=>C4 s q.1 q.2) (c,(a:Int))=some l/\okL l/\FO l=L s/\l.length<=64
 |n,a,c,hn,ha,m,g,d=>by
  by_cases h:a<(L s).length
  ·obtain⟨z,b,h1,h2,h3,h4⟩:=AAb s a ha hs
   match n,hn with
   |0,hn=>omega
   |n+1,hn=>
   have p:((L s).take a).length=a:=by grind
   rcases h4 with rfl|⟨h4,h5,h6,h7⟩
   ·
    have f:sub s (a:Int) ((a+1:Nat):Int)=some (s.extract a<|a+1):=Ft s (by omega) (by omega);have hx:L (s.extract a<|a+1)=[(L s)[a]]:=by
     rw[Ie,show a+1-a=1 by omega,AK h];rfl
    have fresh:∃l,Ao (λq:List AZ×Int=>C4 s q.1 q.2) (c++ [AZ.mk 0 0<|s.extract a<|a+1],((a+1:Nat):Int))=some l/\okL l/\FO l=L s/\l.length<=64:=
     V7 s hs n (a+1) _ (by omega) (by omega) (by simp;omega) (kJ g<|.inl ⟨rfl,rfl,by rw[hx];simp,by rw[hx];simp⟩) (by
      rw[PV];unfold Xr
      rw[AF rfl,d,hx,Al h])
    rcases Ht c with e|⟨out0,t0,e⟩
    ·subst e;obtain⟨l,f1,f2⟩:=fresh;refine⟨l,?_,f2⟩;rw[Aw];have hb:C4 s [] (a:Int)=some (.inl ([AZ.mk 0 0<|s.extract a<|a+1],((a+1:Nat):Int))):=by
      simp only[C4];rw[B3,cT,h1];simp only[Aa];rw[show decide ((((0:Nat):Int))>0)=false from rfl,Ac,ad1,f,show decide ((sb (ln ([]:List AZ)) 1)>=0)=false from rfl];rfl
     grind
    rw[Ky]at e;subst e;obtain⟨ok0,okt0⟩:=AAD g;have hol':out0.length+1<=a:=by simpa using m
    have o:ln (out0++ [t0])=((out0.length+1:Nat):Int):=by rw[Bv];simp
    have i:sb (ln<|out0++ [t0]) 1=(out0.length:Int):=by rw[o,Cm];omega
    have j:gi (out0++ [t0]) (out0.length:Int)=some t0:=FB _ _;by_cases hm:t0.Back=0/\(L t0.Text).length<31
    ·have k:Ih t0.Text (s.extract a<|a+1)=some (t0.Text++s.extract a (a+1)):=Ga _ _ (by rw[hx];simp;omega);have hb:C4 s (out0++ [t0]) (a:Int)=some (.inl (out0++ [AZ.mk t0.Back t0.Size<|t0.Text++s.extract a (a+1)],((a+1:Nat):Int))):=by
      simp only[C4];rw[B3,cT,h1];simp only[Aa];rw[show decide ((((0:Nat):Int))>0)=false from rfl,Ac,ad1,f,i,cT,j];simp only[Aa];rw[show(t0.Back==0)=true by simpa using hm.1,Ae,B3,Ad<|by omega];simp only[Aa,Ae];rw[k];simp only[Aa];rw[Kd]
     have hX:L (t0.Text++s.extract a (a+1))=L t0.Text++ [(L s)[a]]:=by rw[DS,hx]
     obtain⟨l,f1,f2⟩:=V7 s hs n (a+1) (out0++ [AZ.mk t0.Back t0.Size<|t0.Text++s.extract a (a+1)]) (by omega) (by omega) (by grind) (kJ ok0 (by
      rcases okt0 with⟨k1,k2,k3,k4⟩|⟨k1,_⟩
      ·exact .inl ⟨k1,k2,by rw[hX];simp,by rw[hX];simp;omega⟩
      ·omega)) (by
      rw[PV]at d⊢;unfold Xr at d⊢;rw[AF hm.1]at d⊢
      rw[hX,<-AE,d,Al h])
     refine⟨l,?_,f2⟩;rw[Aw]
     grind
    have hb:C4 s (out0++ [t0]) (a:Int)=some (.inl (out0++ [t0]++ [AZ.mk 0 0<|s.extract a<|a+1],((a+1:Nat):Int))):=by
     simp only[C4];rw[B3,cT,h1];simp only[Aa];rw[show decide ((((0:Nat):Int))>0)=false from rfl,Ac,ad1,f,i,cT,j];simp only[Aa];have hj:(bif t0.Back==0 then some (decide<|FU t0.Text<31)else some false:Option Bool)=some false:=by
      by_cases e0:t0.Back=0
      ·rw[show(t0.Back==0)=true by simpa using e0,Ae,B3,Ah<|by omega]
      grind
     rw[hj];simp only[Aa,Ac];rw[BD<|by grind];rfl
    obtain⟨l,f1,f2⟩:=fresh;refine⟨l,?_,f2⟩;rw[Aw]
    grind
   have hb:C4 s c (a:Int)=some (.inl (c++ [AZ.mk (b:Int) (z:Int)<|bs []],((a+z:Nat):Int))):=by
    simp only[C4];rw[B3,cT,h1];simp only[Aa];rw[cT,BD (by simp;omega),Cp];rfl
   obtain⟨l,f1,f2⟩:=V7 s hs n (a+z) (c++ [AZ.mk (b:Int) (z:Int)<|bs []]) (by omega) h3 (by simp;omega) (kJ g<|.inr ⟨by simp;omega,by grind,by simp;omega,by simp;omega,ET _⟩) (by
    rw[PV];unfold Xr;rw[AG (by simp;omega),d];simp only[Bi]
    exact iD (L s) z a b h3 h5 h6 h7)
   refine⟨l,?_,f2⟩;rw[Aw]
   grind
  have ea:a=(L s).length:=by omega
  refine⟨c,?_,g,by grind,by omega⟩;rw[Aw];have hb:C4 s c (a:Int)=some (.inr c):=by
   simp only[C4];rw[B3,cF]
  simp only[hb]
theorem ABw (s:ByteArray) (hs:(L s).length<=64):∃l,LB s=some l/\okL l/\FO l=L s/\l.length<=64:=by
 obtain⟨l,h1,h2⟩:=V7 s hs (L s).length 0 [] (by omega) (by omega) (by simp) (λi t h=>by simp at h) (by simp[FO]);refine⟨l,?_,h2⟩;unfold LB;rw[B3,cF]
 grind
def Nl (t:AZ):List UInt8:=if t.Back=0 then UInt8.ofNat (L t.Text).length::L t.Text else [UInt8.ofNat (128+t.Size).toNat,UInt8.ofNat t.Back.toNat]
theorem vH {t:AZ} {a:List UInt8} (h:okT a t) (ho:a.length<=64):(Nl t).length<=32:=by
 unfold Nl
 rcases h with⟨h1,h2,h3,h4⟩|⟨h1,h2,h3,h4,h5⟩
 ·grind
 grind
theorem ACK {t:AZ} {a:List UInt8} (h:okT a t):a.length<=(Xr a t).length:=by
 unfold Xr;split
 ·simp
 rw[pP];omega
theorem Ow (h:okL l):∀i,i<=l.length->(FO (l.take i)).length<=(FO l).length:=by
 have step:∀i,i<l.length->(FO<|l.take i).length<=(FO<|l.take<|i+1).length:=λi hi=>by
  rw[Al hi,PV];exact ACK<|h i _<|Ab hi
 intro i hi;have:∀k,i+k<=l.length->(FO<|l.take i).length<=(FO<|l.take<|i+k).length:=by
  intro k
  induction k with
  |zero=>grind
  |succ k ih=>grind
 have:=this (l.length-i) (by omega);rw[show i+(l.length-i)=l.length by omega,DR]at this;exact this
theorem AEc (s:ByteArray) (hs:(L s).length<=64):∃l,okL l/\FO l=L s/\l.length<=64/\((Fe s=some (bs (122::l.flatMap Nl),true))\/Fe s=some (bs (114::L s),true)):=by
 obtain⟨l,h1,h2,h3,h4⟩:=ABw s hs;refine⟨l,h2,h3,h4,?_⟩;unfold Fe;rw[B3,cF,h1];simp only[Aa];obtain⟨b,q1,q2⟩:=AJ (body:=λq:ByteArray×Int=>F8 l q.1 q.2) (λz i=>(z,i)) l.length (λi z=>L z=122::(l.take i).flatMap Nl/\(L z).length<=1+32*i) (λz=>L z=122::l.flatMap Nl/\(L z).length<=3000)
  (λz i hi hz=>by
   have hx:=Ab hi;have c:=h2 i _ hx;have a:=Ow h2 i (by omega);rw[h3]at a;have d:=vH c (by omega);have et:(l.take<|i+1).flatMap Nl=(l.take i).flatMap Nl++Nl l[i]:=by rw[Al hi,List.flatMap_append];simp
   simp only[F8,DW hi,Au,hx,Aa];rw[ad1];refine .inl ?_
   rcases c with⟨k1,k2,k3,k4⟩|⟨k1,k2,k3,k4,k5⟩
   ·rw[show(l[i].Back==0)=true by simpa using k1,Ae,Ga _ _ (by rw[Sf];omega)];rw[Aa,Ga _ _ (by rw[DS,Ak,Sf];omega)];have hL:L (z++Fu [IntKind.u8.wrap<|FU l[i].Text]++l[i].Text)=L z++Nl l[i]:=by
     rw[DS,DS,Md];unfold Nl;rw[AF k1,B3];have:IntKind.u8.wrap ((L l[i].Text).length:Int)=((L l[i].Text).length:Int):=by rw[IntKind.wrap_u8];omega
     grind
    grind
   rw[show(l[i].Back==0)=false by simp;omega,Ac,Cp,Ga _ _ (by rw[Od];simp;omega)];have hL:L (z++Fu [IntKind.u8.wrap<|128+l[i].Size,IntKind.u8.wrap l[i].Back])=L z++Nl l[i]:=by
    rw[DS,Md];unfold Nl;rw[AG<|by omega];have e1:IntKind.u8.wrap (128+l[i].Size)=128+l[i].Size:=by rw[IntKind.wrap_u8];omega
    have e2:IntKind.u8.wrap l[i].Back=l[i].Back:=by rw[IntKind.wrap_u8];omega
    grind
   grind)
  (λz hz=>⟨z,by simp only[F8,DH],by grind,by omega⟩) (s:=bs [122]) ⟨by rw[ET];rfl,by rw[ET];simp⟩
 rw[q1];simp only[Aa];have hb:b=bs (122::l.flatMap Nl):=Lk<|by rw[q2.1,ET]
 cases decide (ad ((L s).length:Int) 1<=FU b)with
 |false=>left;rw[hb];rfl
 |true=>
  right;simp only[Ae];rw[Ga _ _ (by rw[ET];simp;omega)];rfl
theorem WM (t:ByteArray) (ht:(L t).length<=10000):∀(l:List AZ) (a:Nat) (c:List AZ),(∀x∈l,∃o:List UInt8,okT o x/\o.length<=64)->(L t).drop a=l.flatMap Nl->a<=(L t).length->c.length<=a->Ao (λq:List AZ×Int=>BW t q.1 q.2) (c,(a:Int))=some (.inl (c++l))
 |[],a,c,hl,h,ha,ho=>by
  have:(L t).length=a:=by
   have:=BT List.length h
   grind
  rw[Aw];have hb:BW t c (a:Int)=some (.inr<|.inl c):=by
   simp only[BW];rw[B3,cF]
  grind
 |x::l,a,c,hl,h,ha,ho=>by
  obtain⟨o,m,p⟩:=hl x (by simp);rw[K0]at h;have d:=BT List.length h;rw[Dc,Ak]at d
  rcases m with⟨k1,k2,k3,k4⟩|⟨k1,k2,k3,k4,k5⟩
  ·have he:Nl x=UInt8.ofNat (L x.Text).length::L x.Text:=by unfold Nl;rw[AF k1]
   rw[he]at h d;rw[AA]at d;have f:a<(L t).length:=by omega
   have e:=AK f;rw[h,BB]at e
   injection e with hx hd
   have i:(((L t)[a]).toNat:Int)=((L x.Text).length:Int):=by rw[<-hx,Hj];omega
   have k:sub t ((a+1:Nat):Int) ((a+1+(L x.Text).length:Nat):Int)=some x.Text:=by
    rw[Ft t (by omega)<|by omega];congr 1;apply Lk;rw[Ie,<-hd,show a+1+(L x.Text).length-(a+1)=(L x.Text).length by omega,List.take_left' rfl]
   have hb:BW t c (a:Int)=some (.inl (c++ [AZ.mk 0 0 x.Text],((a+1+(L x.Text).length:Nat):Int))):=by
    simp only[BW];rw[B3,cT,Fs t f,Aa,i,P2 (by omega) (by omega),cF,ad1,Cp,cF,show((a+1:Nat):Int)+((L x.Text).length:Int)=((a+1+(L x.Text).length:Nat):Int) by omega,k,Aa,BD (by simp;omega)];rfl
   have j:AZ.mk 0 0 x.Text=x:=by
    cases x with
    |mk b z u=>grind
   rw[j]at hb;rw[Aw];simp only[hb];have:=WM t ht l (a+1+(L x.Text).length) (c++ [x]) (λy hy=>hl y<|by simp[hy]) (by rw[<-CB,<-hd,GA rfl]) (by omega) (by simp;omega)
   grind
  have he:Nl x=[UInt8.ofNat (128+x.Size).toNat,UInt8.ofNat x.Back.toNat]:=by unfold Nl;grind
  rw[he]at h d;simp only[AA,Fj]at d;have f:a<(L t).length:=by omega
  have e:=AK f;rw[h]at e;simp only[BB,A6]at e
  injection e with hx hd
  have g:=AK (show a+1<(L t).length by omega);rw[<-hd]at g
  injection g with hx2 hd2
  have i:(((L t)[a]).toNat:Int)=128+x.Size:=by rw[<-hx,Hj];omega
  have n:(((L t)[a+1]'(by omega)).toNat:Int)=x.Back:=by rw[<-hx2,Hj];omega
  have hb:BW t c (a:Int)=some (.inl (c++ [AZ.mk x.Back x.Size<|bs []],((a+2:Nat):Int))):=by
   simp only[BW];rw[B3,cT,Fs t f,Aa,i,P2 (by omega) (by omega),cT,Cp (b:=2) (by omega) (by omega),cF,ad1,Fs t (by omega),Aa,n,P2 (by omega) (by omega),Cm,BD (by simp;omega),Aa,show 128+x.Size-128=x.Size by omega];rfl
  have j:AZ.mk x.Back x.Size (bs [])=x:=by
   cases x with
   |mk b z u=>simp only at k5⊢;rw[show bs []=u from Lk<|by rw[k5,ET]]
  rw[j]at hb;rw[Aw];simp only[hb];have:=WM t ht l (a+2) (c++ [x]) (λy hy=>hl y<|by simp[hy]) (by grind) (by omega) (by simp;omega)
  grind
def Hp (l:List UInt8):List Int:=l.map λc=>(c.toNat:Int)
theorem xE (l:List UInt8):L (Fu (Hp l))=l:=by
 rw[Md,Hp,GO];have:((λn:Int=>UInt8.ofNat n.toNat)∘λc:UInt8=>(c.toNat:Int))=id:=by
  funext c;simp
 rw[this,Vr]
theorem z8 (b:ByteArray):rM b=Hp (L b):=rfl
theorem ZX (x:AZ) (b:1<=x.Back) (hs:0<=x.Size/\x.Size<=31):∀(n k:Nat) (a:List UInt8),(k:Int)+n=x.Size->x.Back<=(a.length:Int)->a.length+n<=1000->Ao (λq:List Int×Int=>Ed x q.1 q.2) (Hp a,(k:Int))=some (Hp (W2 n x.Back.toNat a))
 |0,k,a,hk,c,ho=>by
  rw[Aw];have hb:Ed x (Hp a) (k:Int)=some (.inr (Hp a)):=by
   simp only[Ed];rw[cF]
  simp only[hb];rfl
 |n+1,k,a,hk,c,ho=>by
  have d:ln (Hp a)=(a.length:Int):=by rw[Bv,Hp,Bs]
  have e:gi (Hp a) ((a.length:Int)-x.Back)=some (((a[a.length-x.Back.toNat]?).getD 0).toNat:Int):=by
   rw[show(a.length:Int)-x.Back=((a.length-x.Back.toNat:Nat):Int) by omega,Au,Hp,CL,Ab<|by omega];rfl
  have hb:Ed x (Hp a) (k:Int)=some (.inl (Hp<|a++ [(a[a.length-x.Back.toNat]?).getD 0],((k+1:Nat):Int))):=by
   simp only[Ed];rw[cT,d,Cm,e,Aa,BD (by simp[Hp];omega),ad1];simp only[Aa,Hp,Cb,C6,List.map_nil]
  rw[Aw];simp only[hb];rw[W2];exact ZX x b hs n (k+1) _ (by omega) (by simp;omega) (by simp;omega)
theorem r8 (l:List AZ) (hl:l.length<=64) (a:okL l) (h64:(FO l).length<=64):Ao (λq:List Int×Int=>Ee l q.1 q.2) ([],0)=some (.inl (Hp (FO l))):=by
 obtain⟨b,h1,h2⟩:=AJ (body:=λq:List Int×Int=>Ee l q.1 q.2) (λ(o:List UInt8) i=>(Hp o,i)) l.length (λi o=>o=FO (l.take i)) (λb=>b= .inl (Hp<|FO l))
  (λo i hi ho=>by
   have hx:=Ab hi;have hk:=a i _ hx;have hm:=Ow a i (by omega);have d:=Ow a (i+1) (by omega);have et:FO (l.take<|i+1)=Xr o l[i]:=by rw[Al hi,PV,ho]
   rw[<-ho]at hk hm;rw[et]at d
   have c:∀q:List UInt8,ln (Hp q)=(q.length:Int):=λq=>by rw[Bv,Hp,Bs]
   simp only[Ee,DW hi,Au,hx,Aa];refine .inl ⟨Xr o l[i],?_,et.symm⟩
   rcases hk with⟨k1,k2,k3,k4⟩|⟨k1,k2,k3,k4,k5⟩
   ·rw[show(l[i].Back==0)=true by simpa using k1,Ae,B3,Ey,Ad<|by omega];simp only[Aa,Ag,Ac];rw[show(l[i].Size !=0)=false by simp[k2],z8];simp only[Ac];have e1:ap 1 (Hp o) (Hp<|L l[i].Text)=some (Hp<|Xr o l[i]):=by
     rw[BD (by simp[Hp];omega)];unfold Xr;rw[AF k1];simp[Hp]
    rw[e1];simp only[Aa,Bo];rw[c,cF,ad1]
   rw[show(l[i].Back==0)=false by simp;omega,Ac,c,Ey,Ad<|by omega];simp only[Aa,Ag,Ac];rw[Ey,Ad<|by omega];simp only[Aa,Ag,Ac];have e:seq l[i].Text (bs [])=true:=by rw[JU,A4];exact Lk<|by rw[k5,ET]
   rw[e];simp only[Ag,Ac];have e1:=ZX l[i] k1 ⟨by omega,k4⟩ l[i].Size.toNat 0 o (by omega) k2 (by omega);rw[show((0:Nat):Int)=0 from rfl]at e1;rw[e1];have e2:W2 l[i].Size.toNat l[i].Back.toNat o=Xr o l[i]:=by unfold Xr;grind
   rw[e2];simp only[Aa,Bo]
   rw[c,cF,ad1])
  (λo ho=>⟨.inl<|Hp o,by simp only[Ee,DH],by grind⟩) (s:=[]) rfl
 rw[<-h2];exact h1
theorem qB (s:ByteArray) (hs:(L s).length<=64):∃z,Fe s=some (z,true)/\Gx z=some (s,true)/\1<=(L z).length:=by
 obtain⟨l,h1,h2,h3,h4⟩:=AEc s hs;have fin:∀z:ByteArray,Fe s=some (z,true)->((Fe s).bind λv3=>(cond (!v3.2) (some true) (some<|!(seq v3.1 z)):Option Bool).bind λj2=>cond j2 (some (bs [],false))<|some (s,true))=some (s,true):=by
  intro z hz;rw[hz];have:seq z z=true:=by rw[JU];simp
  grind
 rcases h4 with h4|h4
 ·refine⟨_,h4,?_,by rw[ET];simp⟩;have hf:=fin _ h4;generalize hz:bs (122::l.flatMap Nl)=z at h4 hf;have hL:L z=122::l.flatMap Nl:=by rw[<-hz,ET]
  have h:(L z).length<=3000:=by
   have:∀m:List AZ,(∀x∈m,∃o:List UInt8,okT o x/\o.length<=64)->(m.flatMap Nl).length<=32*m.length:=by
    intro m
    induction m with
    |nil=>intro _;simp
    |cons x m ih=>
     intro hm;obtain⟨o,e,f⟩:=hm x (by simp);have:=vH e f
     grind
   have:=this l (λx hx=>by
    obtain⟨i,hi,rfl⟩:=A5 hx;have hm:=Ow h1 i (by omega);rw[h2]at hm
    exact⟨_,h1 i _<|Ab hi,by omega⟩)
   grind
  unfold Gx;have a:1<=(L z).length:=by rw[hL];simp
  rw[B3,show(((L z).length:Int)==0)=false by grind,Ac];have b:sub z 1 ((L z).length:Int)=some (bs<|l.flatMap Nl):=by
   rw[show(1:Int)=((1:Nat):Int)from rfl,Ft z a<|Ax _];congr 1;apply Lk;rw[Ie,ET,AL (by grind),hL];rfl
  have c:sx z 0=some 122:=by
   rw[show(0:Int)=((0:Nat):Int)from rfl,Fs z (i:=0) a];have:(L z)[0]?=some 122:=by rw[hL];rfl
   rw[Ab<|by omega]at this
   injection this with this
   rw[this];rfl
  rw[b,c];simp only[Aa];rw[show((122:Int)==122)=true from rfl];simp only[Ae];have g:(L<|bs<|l.flatMap Nl).length<=10000:=by rw[ET];grind
  have d:=WM (bs<|l.flatMap Nl) g l 0 [] (λx hx=>by
    obtain⟨i,hi,rfl⟩:=A5 hx;have hm:=Ow h1 i (by omega);rw[h2]at hm
    exact⟨_,h1 i _<|Ab hi,by omega⟩) (by rw[ET];rfl) (by omega)<|by simp
  rw[show((0:Nat):Int)=0 from rfl,A6]at d;have ht:Kh (bs<|l.flatMap Nl)=some (l,true):=by
   unfold Kh;rw[d];rfl
  have hp:Gg l=some (s,true):=by
   unfold Gg;rw[r8 l h3 h1 (by rw[h2];omega),h2];simp only[Aa,Bo];congr 2;apply Lk;rw[xE]
  grind
 refine⟨_,h4,?_,by rw[ET];simp⟩;have hf:=fin _ h4;generalize hz:bs (114::L s)=z at h4 hf;have hL:L z=114::L s:=by rw[<-hz,ET]
 unfold Gx;have a:1<=(L z).length:=by rw[hL];simp
 rw[B3,show(((L z).length:Int)==0)=false by grind,Ac];have b:sub z 1 ((L z).length:Int)=some s:=by
  rw[show(1:Int)=((1:Nat):Int)from rfl,Ft z a<|Ax _];congr 1;apply Lk;rw[Ie,AL (by grind),hL];rfl
 have c:sx z 0=some 114:=by
  rw[show(0:Int)=((0:Nat):Int)from rfl,Fs z (i:=0) a];have:(L z)[0]?=some 114:=by rw[hL];rfl
  rw[Ab<|by omega]at this
  injection this with this
  rw[this];rfl
 grind
theorem W4 (a b:List ByteArray):Qq (a++b)=Qq a++Qq b:=by unfold Qq;grind
theorem wS (a b:List C3):I3 (a++b)=I3 a++I3 b:=by unfold I3;grind
def Cq (seq tx:Int) (T:List ByteArray):List Page:=T.mapIdx λi t=>Page.mk 2 (seq+i) tx i T.length t
theorem yQ (a:List C3) (hr:a.length<=1048576) (h:∀r∈a,GM r=true):∃T:List ByteArray,Ao (λs:List ByteArray×Int=>Ec a s.1 s.2) ([bs []],0)=some (.inl T)/\1<=T.length/\T.length<=1+a.length/\Qq T=I3 a/\∀t∈T,(L t).length<=90:=by
 obtain⟨b,h1,T,h2,h3⟩:=AJ (body:=λs:List ByteArray×Int=>Ec a s.1 s.2) (λ(o:List ByteArray) i=>(o,i)) a.length
  (λi T=>1<=T.length/\T.length<=1+i/\Qq T=I3 (a.take i)/\∀t∈T,(L t).length<=90)
  (λb=>∃T:List ByteArray,b= .inl T/\1<=T.length/\T.length<=1+a.length/\Qq T=I3 a/\∀t∈T,(L t).length<=90)
  (λT i hi hT=>by
   obtain⟨j,k,g,l⟩:=hT;have hx:=Ab hi;obtain⟨t,t1,t2⟩:=jN<|h _<|Az hi;have m:=AAl<|h _<|Az hi;rw[<-t2]at m;have et:I3 (a.take<|i+1)=I3 (a.take i)++L t:=by rw[Al hi,wS,t2];simp[I3]
   rcases Ht T with e|⟨T0,c,e⟩
   ·subst e;simp at j
   rw[Ky]at e;subst e;have n:ln (T0++ [c])=((T0.length+1:Nat):Int):=by rw[Bv];simp
   rw[Ak,Bg]at j k;have p:sb (ln<|T0++ [c]) 1=(T0.length:Int):=by rw[n,Cm];omega
   have q:gi (T0++ [c]) (T0.length:Int)=some c:=FB _ _;have u:=l c (by simp);rw[W4]at g;simp only[Ec,DW hi,Au,hx,Aa];rw[t1];simp only[Aa,Ag,Ac];rw[p,q];simp only[Aa];rw[B3,B3,Cp,ad1];refine .inl ?_;by_cases f:((L c).length:Int)+((L t).length:Int)>90
   ·rw[Ad f,Ae,BD (by simp;omega)];refine⟨T0++ [c]++ [t],rfl,by simp,by simp;omega,?_,λx d=>?_⟩
    ·rw[W4,W4,et,g];simp[Qq]
    grind
   rw[Ah f,Ac,Ga _ _<|by omega];simp only[Aa];rw[Kd];refine⟨T0++ [c++t],rfl,by simp,by simp;omega,?_,λx d=>?_⟩
   ·rw[W4,et,<-g];simp[Qq,DS]
   rw[Ap,Bu]at d
   rcases d with d|rfl
   ·grind
   rw[DS,Ak];omega)
  (λT hT=>⟨_,by simp only[Ec,DH],T,rfl,hT.1,hT.2.1,by grind,hT.2.2.2⟩) (s:=[bs []]) ⟨by simp,by simp,by rfl,λt ht=>by rw[Bu]at ht;rw[ht,ET];simp⟩
 grind
theorem yR (seq tx:Int) (a:List C3) (hr:a.length<=1000) (c:∀r∈a,GM r=true):∃T:List ByteArray,1<=T.length/\Qq T=I3 a/\(∀t∈T,(L t).length<=90)/\T.length<=1+a.length/\
  ((IU seq tx a=some (Cq seq tx T,true)/\T.length<=9/\1<=seq/\seq+T.length-1<=1000000000/\1<=tx/\tx<=1000000000)\/(IU seq tx a=some ([],false)/\¬(T.length<=9/\1<=seq/\seq+T.length-1<=1000000000/\1<=tx/\tx<=1000000000))):=by
 obtain⟨T,h1,h2,h2',h3,h4⟩:=yQ a (by omega) c;refine⟨T,h2,h3,h4,h2',?_⟩;unfold IU;rw[h1];simp only[Aa,Bo];rw[Bv];by_cases h9:(T.length:Int)>9
 ·grind
 rw[Ah h9];simp only[Ac];rw[Cm,Cp,Ey,Ey];simp only[Aa];by_cases hs:1<=seq/\seq<=1000000000-(T.length:Int)+1
 ·rw[Ad hs];simp only[Ag,Ac];by_cases ht:1<=tx/\tx<=1000000000
  ·rw[Ad ht];simp only[Ag,Ac,Aa];left;obtain⟨b,q1,q2⟩:=AJ (body:=λs:List Page×Int=>Gy seq tx T s.1 s.2) (λ(o:List Page) i=>(o,i)) T.length (λi o=>o=(Cq seq tx T).take i) (λb=>b=Cq seq tx T)
    (λo i hi ho=>by
     have hx:=Ab hi;have e:o.length<=i:=by grind
     simp only[Gy,DW hi,Au,hx,Aa];rw[Cp,Bv,BD (by simp;omega),Aa,ad1];refine .inl ⟨_,rfl,?_⟩;have d:(Cq seq tx T)[i]?=some (Page.mk 2 (seq+i) tx i T.length T[i]):=by unfold Cq;grind
     rw[DX,d,ho]
     rfl)
    (λo ho=>⟨o,by simp only[Gy,DH],by rw[ho,AL];unfold Cq;grind⟩) (s:=[]) rfl
   grind
  grind
 grind
def Steps:Flash->List AS->Flash->Prop
 |f,[],g=>g=f
 |f,s::ss,g=>Si f s/\Steps (Lq f s) ss g
theorem Mb:∀(f:Flash) (a b:List AS) (g:Flash),Steps f (a++b) g↔∃m,Steps f a m/\Steps m b g
 |f,[],b,g=>⟨λh=>⟨f,rfl,h⟩,λ⟨m,h1,h2⟩=>by rw[h1]at h2;exact h2⟩
 |f,s::a,b,g=>by
  rw[BB];simp only[Steps,Mb]
  grind
theorem W8:∀{f:Flash} {a:List AS} {g:Flash},BA f->Steps f a g->BA g
 |f,[],g,hf,h=>by rw[h];exact hf
 |f,s::a,g,hf,h=>W8 (uQ hf h.1) h.2
theorem tV {m:Flash} {s:AS} (h:Steps f a m) (hs:Si m s):Steps f (a++ [s]) (Lq m s):=(Mb f a [s] _).2 ⟨m,h,hs,rfl⟩
theorem XQ (hf:BA f) (h:Steps f a g) (ha:a.length<=1048576):IX f a=some (g,(a.length:Int)):=by
 unfold IX;rw[CQ f hf.cap];simp only[Aa];obtain⟨b,h1,h2⟩:=AJ (body:=λs:Int×List Block=>Eg a s.1 s.2) (λ(o:List Block) i=>(i,o)) a.length (λi o=>Steps f (a.take i) (Flash.mk o)/\Steps (Flash.mk o) (a.drop i) g) (λb=>b= .inl g.Blocks)
  (λo i hi hs=>by
   have hx:=Ab hi;obtain⟨s1,s2⟩:=hs;rw[AK hi]at s2;simp only[Eg,DW hi,Au,hx,Aa];have hP:=W8 hf s1
   rcases QF hP a[i]with⟨k1,k2⟩|⟨k1,k2⟩
   ·rw[k2];simp only[Aa,Ag,Ac];rw[ad1];refine .inl ⟨(Lq (Flash.mk o) a[i]).Blocks,rfl,?_,s2.2⟩;rw[Al hi];exact tV s1 k1
   exact absurd s2.1 k1)
  (λo hs=>⟨.inl o,by simp only[Eg,DH],by
   have:=hs.2;rw[List.drop_length]at this
   rw[show g=Flash.mk o from this]⟩) (s:=f.Blocks) ⟨rfl,h⟩
 rw[h1,h2];rfl
def Jq:Flash->List AS->List Page->Flash->Prop
 |f,[],[],g=>g=f
 |f,s::ss,p::ps,g=>s.Kind=1/\oR f s.Block s.Leaf s.Text/\FM s.Text=some (p,true)/\Jq (Lq f s) ss ps g
 |_,_,_,_=>False
theorem FD:∀{f:Flash} {ss:List AS} {ps:List Page} {g:Flash},Jq f ss ps g->Steps f ss g/\ss.length=ps.length
 |f,[],[],g,h=>⟨h,rfl⟩
 |f,s::ss,p::ps,g,h=>⟨⟨.inl ⟨h.1,h.2.1⟩,(FD h.2.2.2).1⟩,by rw[AA,AA,(FD h.2.2.2).2]⟩
 |f,[],p::ps,g,h=>h.elim
 |f,s::ss,[],g,h=>h.elim
theorem cS:∀{f:Flash} {ss:List AS} {ps:List Page} {g:Flash} {b l:Int} {t:ByteArray} {p:Page},Jq f ss ps g->oR g b l t->FM t=some (p,true)->Jq f (ss++ [AS.mk 1 b l t]) (ps++ [p]) (UN g b l (Leaf.mk 1 t))
 |f,[],[],g,b,l,t,p,h,h1,h2=>by
  have:g=f:=h;subst this;exact⟨rfl,h1,h2,by unfold Lq;rfl⟩
 |f,s::ss,q::ps,g,b,l,t,p,h,h1,h2=>⟨h.1,h.2.1,h.2.2.1,cS h.2.2.2 h1 h2⟩
 |f,[],q::ps,g,b,l,t,p,h,h1,h2=>h.elim
 |f,s::ss,[],g,b,l,t,p,h,h1,h2=>h.elim
def Cl (ss:List AS) (ps:List Page):List Aq:=List.zipWith (λs p=>Aq.mk s.Block s.Leaf p) ss ps
def H7:Int->List Page->Prop
 |_,[]=>True
 |n,p::ps=>n<=p.Seq/\H7 (p.Seq+1) ps
theorem cU:∀{f:Flash} {ss:List AS} {ps:List Page} {g:Flash} {r:List Aq} {n:Int},BA f->SR (KJ 0 f.Blocks) r->Jq f ss ps g->(∀y∈r,y.Page.Seq<n)->H7 n ps->SR (KJ 0 g.Blocks) (r++Cl ss ps)
 |f,[],[],g,r,n,hf,a,h,hn,ha=>by
  have:g=f:=h;subst this;unfold Cl;simpa using a
 |f,s::ss,p::ps,g,r,n,hf,a,h,hn,ha=>by
  obtain⟨h1,h2,h3,h4⟩:=h;obtain⟨k1,_,A,B,k2,k3,_⟩:=QQ hf h2;have c:Lq f s=UN f s.Block s.Leaf (Leaf.mk 1 s.Text):=by unfold Lq;rw[AF h1]
  rw[c]at h4;have b:SR (KJ 0 (UN f s.Block s.Leaf<|Leaf.mk 1 s.Text).Blocks) (r++ [Aq.mk s.Block s.Leaf p]):=by
   rw[k3 p<|oE h3]
   refine SR.add (by grind) λx hx=>?_
   have:=hn x hx;have:=ha.1;show x.Page.Seq<p.Seq;omega
  have:=cU k1 b h4 (n:=p.Seq+1) (λy hy=>by
   rw[Ap,Bu]at hy
   rcases hy with hy|rfl
   ·have:=hn y hy;have:=ha.1;omega
   grind) ha.2
  rw[AE]at this;exact this
 |f,[],q::ps,g,r,n,hf,a,h,hn,ha=>h.elim
 |f,s::ss,[],g,r,n,hf,a,h,hn,ha=>h.elim
theorem Vk:∀{f:Flash} {ss:List AS} {ps:List Page} {g:Flash} (k:Nat),Jq f ss ps g->∃m,Jq f (ss.take k) (ps.take k) m
 |f,[],[],g,k,h=>⟨f,by simp[Jq]⟩
 |f,s::ss,p::ps,g,0,h=>⟨f,rfl⟩
 |f,s::ss,p::ps,g,k+1,h=>by
  obtain⟨m,hm⟩:=Vk k h.2.2.2;exact⟨m,h.1,h.2.1,h.2.2.1,hm⟩
 |f,[],q::ps,g,k,h=>h.elim
 |f,s::ss,[],g,k,h=>h.elim
theorem AAs (hg:BA g) (h:Jq f ss ps g) (hs:ss.length<=1000) (p:Page):
  (∃s g',DP g ss p=some (g',ss++ [s],true)/\Jq f (ss++ [s]) (ps++ [p]) g'/\BA g'/\JA p/\UP g s.Block s.Leaf)\/DP g ss p=some (g,ss,false):=by
 by_cases hp:JA p
 ·obtain⟨t,t1,t2,t3,t4⟩:=wW hp
  rcases ZA hg ss (by omega) p t1 (λ_=>⟨t2,t3⟩)with⟨_,b,l,q1,_,q2⟩|q
  ·left;have hm:oR g b l t:=by
    obtain⟨x,a1,a2,a3,a4⟩:=q1;exact⟨x,a1,a2,a3,a4,t2,t3⟩
   exact⟨_,_,q2,cS h hm t4,(QQ hg hm).1,hp,q1⟩
  exact .inr q
 rcases ZA hg ss (by omega) p (AAv hp) (λhh=>by cases hh)with⟨hh,_⟩|q
 ·cases hh
 exact .inr q
theorem ZY (hf:BA f) (ps:List Page) (rt:Bool) (c:ps.length<=9) (a:List Page) (ss0:List AS) (g0:Flash) (ok0:Bool) (h0:ok0=true->Jq f ss0 a g0/\BA g0/\ss0.length<=1):
  ∃ss ok,Ao (λs:List AS×Bool×Int×List Block=>Ca (ps,rt) s.1 s.2.1 s.2.2.1 s.2.2.2) (ss0,ok0,0,g0.Blocks)=some (ss,ok)/\(ok=true->ok0=true/\∃g,Jq f ss (a++ps) g/\BA g/\∀p∈ps,JA p):=by
 obtain⟨b,h1,h2⟩:=AJ (body:=λs:List AS×Bool×Int×List Block=>Ca (ps,rt) s.1 s.2.1 s.2.2.1 s.2.2.2) (λ(o:List AS×Bool×List Block) i=>(o.1,o.2.1,i,o.2.2)) ps.length
  (λi o=>o.2.1=true->ok0=true/\Jq f o.1 (a++ps.take i) (Flash.mk o.2.2)/\BA (Flash.mk o.2.2)/\o.1.length<=i+1/\∀p∈ps.take i,JA p)
  (λb=>b.2=true->ok0=true/\∃g,Jq f b.1 (a++ps) g/\BA g/\∀p∈ps,JA p)
  (λo i hi hs=>by
   obtain⟨ss,ok,bl⟩:=o;have hx:=Ab hi;simp only[Ca,FX,Ad hi,Ae,Aa]
   cases ok with
   |false=>grind
   |true=>
    obtain⟨k0,k1,k2,k3,k4⟩:=hs rfl;simp only at k1 k2 k3;simp only[Ae,Au,hx,Aa];refine .inl ?_
    rcases AAs k2 k1 (by omega) ps[i]with⟨s,g',q1,q2,q3,q4,_⟩|q
    ·rw[q1];simp only[Aa];rw[ad1];refine⟨(ss++ [s],true,g'.Blocks),rfl,λ_=>⟨k0,?_,q3,by simp;omega,λp hp=>?_⟩⟩
     ·rw[Al hi,<-AE];exact q2
     rw[Al hi,Ap,Bu]at hp
     grind
    rw[q];simp only[Aa];rw[ad1]
    simp)
  (λo hs=>⟨(o.1,o.2.1),by simp only[Ca,FX,Dw,EV,Ac,Aa],λhh=>by grind⟩) (s:=(ss0,ok0,g0.Blocks)) (λhh=>by
    obtain⟨a1,a2,a3⟩:=h0 hh
    exact⟨hh,by rw[Jm,A8];exact a1,a2,by simpa using a3,λp hp=>by simp at hp⟩)
 grind
def Dg (d:Ay) (c:Int) (a:ByteArray):List Page:=if L a=[]then []else [Page.mk 1 d.Seq c 0 1 a]
def Js (d:Ay) (a:ByteArray):Int:=if L a=[]then d.Seq else d.Seq+1
theorem RB (hf:BA d.Flash) (k:0<=d.Seq/\d.Seq<=1000000001) (b:List C3) (i:b≠ []) (hr:b.length<=1000) (j:∀r∈b,GM r=true) (a:ByteArray):
  DI d b a=some ([],false)\/∃steps T g c,b[b.length-1]?=some c/\DI d b a=some (steps,true)/\1<=T.length/\T.length<=9/\Qq T=I3 b/\(∀t∈T,(L t).length<=90)/\
   Jq d.Flash steps (Dg d c.Chunk a++Cq (Js d a) d.Tx T) g/\BA g/\∀p∈Dg d c.Chunk a++Cq (Js d a) d.Tx T,JA p:=by
 have l:0<b.length:=Nc.2 i;obtain⟨c,h⟩:∃c,b[b.length-1]?=some c:=⟨_,Ab<|by omega⟩;unfold DI;rw[show(ln b==0)=false by rw[beq_eq_false_iff_ne,Bv];omega];simp only[Ac];have first:∃ss0 g0 ok0,(cond (!(seq a<|bs [])) (((gi b<|sb (ln b) 1).bind λx1=>(DP d.Flash []<|Page.mk 1 d.Seq x1.Chunk 0 1 a).bind λv1=>some (v1.2.1,v1.2.2,v1.1.Blocks):Option (List AS×Bool×List Block)).bind λj2=>some (j2.1,ad d.Seq 1,j2.2.1,j2.2.2)) (some ([],d.Seq,true,d.Flash.Blocks)):Option (List AS×Int×Bool×List Block))=some (ss0,Js d a,ok0,Flash.Blocks g0)/\(ok0=true->Jq d.Flash ss0 (Dg d c.Chunk a) g0/\BA g0/\ss0.length<=1/\∀p∈Dg d c.Chunk a,JA p):=by
  by_cases ht:L a=[]
  ·have:seq a (bs [])=true:=by rw[JU,A4];exact Lk (by rw[ht,ET])
   rw[this];refine⟨[],d.Flash,true,?_,λ_=>⟨?_,hf,by simp,?_⟩⟩
   ·unfold Js;rw[AF ht];rfl
   ·unfold Dg;rw[AF ht];rfl
   unfold Dg;grind
  have:seq a (bs [])=false:=by
   rw[JU,E0];intro e;exact ht<|by rw[e,ET]
  rw[this];simp only[AN,Ae];rw[Bv,Cm,show(b.length:Int)-1=((b.length-1:Nat):Int) by omega,Au,h,Aa,Cp];have e1:Js d a=d.Seq+1:=by unfold Js;rw[AG ht]
  have e2:Dg d c.Chunk a=[Page.mk 1 d.Seq c.Chunk 0 1 a]:=by unfold Dg;rw[AG ht]
  rw[e1,e2]
  rcases AAs (f:=d.Flash) (ss:=[]) (ps:=[]) hf rfl (by simp) (Page.mk 1 d.Seq c.Chunk 0 1 a)with⟨s,g',q1,q2,q3,q4,_⟩|q
  ·rw[q1];refine⟨_,g',true,rfl,λ_=>⟨q2,q3,by simp,λp hp=>?_⟩⟩
   grind
  rw[q];exact⟨_,d.Flash,false,rfl,λhh=>by cases hh⟩
 obtain⟨ss0,g0,ok0,e0,h0⟩:=first
 rw[e0];simp only[Aa];obtain⟨T,t1,t2,t3,_,t4⟩:=yR (Js d a) d.Tx b hr j
 rcases t4 with⟨t4,t5,t6,t7,t8,t9⟩|⟨t4,_⟩
 ·rw[t4];simp only[Aa];obtain⟨ss,ok,q1,q2⟩:=ZY hf (Cq (Js d a) d.Tx T) true (by unfold Cq;grind) (Dg d c.Chunk a) ss0 g0 ok0 λhh=>⟨(h0 hh).1,(h0 hh).2.1,(h0 hh).2.2.1⟩;rw[q1];simp only[Aa]
  grind
 rw[t4];simp only[Aa];obtain⟨ss,ok,q1,q2⟩:=ZY hf [] false (by simp) (Dg d c.Chunk a) ss0 g0 ok0 λhh=>⟨(h0 hh).1,(h0 hh).2.1,(h0 hh).2.2.1⟩
 grind
def KL (r:List Aq) (c:Int):Option Aq:=(r.filter<|Jd c).getLast?
noncomputable def TR (t:ByteArray):Option ByteArray:=match Gx t with
 |some (s,true)=>some s
 |_=>none
noncomputable def BZ (r:List Aq) (c:Int):Option ByteArray:=(KL r c).bind λy=>TR y.Page.Text
theorem SD:Jd c y=true↔y.Page.Kind=1/\y.Page.Tx=c:=by
 unfold Jd
 grind
theorem Wg (h:KL r c=some y):y∈r/\y.Page.Kind=1/\y.Page.Tx=c:=by
 have:=List.mem_of_getLast? h;rw[Be,SD]at this;exact this
theorem MJ (r:List Aq) (y:Aq) (c:Int):KL (r++ [y]) c=if y.Page.Kind=1/\y.Page.Tx=c then some y else KL r c:=by
 unfold KL;rw[AI];by_cases e:y.Page.Kind=1/\y.Page.Tx=c
 ·rw[AF e,DA<|SD.2 e,Ns,List.getLast?_concat]
 rw[AG e,E4 λhh=>e<|SD.1 hh,Ns,A8]
theorem gM (r m:List Aq) (h:∀y∈m,y.Page.Kind≠1) (c:Int):KL (r++m) c=KL r c:=by
 unfold KL;rw[AI,Bh.2 λy hy hh=>h y hy (SD.1 hh).1,A8]
theorem bI {y:α} (l:List α) (p:α->Bool) (h:l.getLast? =some y) (hp:p y=true):(l.filter p).getLast? =some y:=by
 rcases Ht l with e|⟨m,x,e⟩
 ·rw[e]at h;cases h
 grind
theorem oP (p:Aq->Bool) (h:KL r c=some y) (hp:p y=true):KL (r.filter p) c=some y:=by
 unfold KL at h⊢;rw[DM];have:r.filter (λa=>Jd c a&&p a)=(r.filter<|Jd c).filter p:=by
  rw[DM]
  grind
 rw[this];exact bI _ p h hp
theorem aD {o:Option Nat} (h:RM c r r.length o):KL r c=o.bind λj=>r[j]? :=by
 cases o with
 |none=>
  unfold KL;have:r.filter (Jd c)=[]:=by
   rw[Bh];intro y hy;obtain⟨j,hj,rfl⟩:=A5 hy;have:=h j r[j] hj<|Ab hj;rw[this];simp
  rw[this];rfl
 |some j=>
  obtain⟨h1,⟨y,h2,h3⟩,h4⟩:=h;simp only[Aa,h2];unfold KL;obtain⟨e1,e2⟩:=JX h2;rw[e1,AI,DA h3];have:(r.drop<|j+1).filter (Jd c)=[]:=by
   rw[Bh];intro z hz;obtain⟨k,hk,rfl⟩:=A5 hz;rw[Dc]at hk;rw[Vt];have:=h4 (j+1+k) _ (by omega) (by omega) (Ab<|by omega);rw[this];simp
  grind
theorem rY (hr:r.length<=1048576) (c:Int):∃y ok,My r c=some (y,ok)/\KL r c=(if ok=true then some y else none):=by
 obtain⟨o,h1,h2⟩:=gL r hr c;have h3:=aD h2
 cases o with
 |none=>grind
 |some j=>
  obtain⟨_,⟨y,k1,_⟩,_⟩:=h2;refine⟨y,true,?_,by grind⟩;rw[h1];simp only[Le,k1,AR];rfl
theorem ZE (hr:GJ r) (c:Int):∃u ok,Kf r c=some (u,ok)/\BZ r c=(if ok=true then some u else none):=by
 obtain⟨y,ok,h1,h2⟩:=rY hr.len c;unfold Kf BZ;rw[h1,h2]
 cases ok with
 |false=>simp
 |true=>
  have hy:=(Wg (by rw[h2];rfl)).1;obtain⟨u,ok2,k1,_,_⟩:=Ux y.Page.Text (by have:=hr.text y hy;omega);simp only[Aa,Ag,Ac,Ce];rw[k1];unfold TR
  grind
structure JO (r:List Aq):Prop where
 pages:GJ r
 inc:r.Pairwise λx y=>x.Page.Seq<y.Page.Seq
 mu:qJ r
def DQ (l:Vs) (c:Int):Prop:=0<c/\∃p∈l,c∈p.2
structure Hg (r:List Aq) (P:Int->Prop):Prop where
 data:∀c,P c->∃s,BZ r c=some s
 dist:∀c c',P c->P c'->BZ r c=BZ r c'->c=c'
theorem Hg.mono {Q:Int->Prop} (h:Hg r P) (hq:∀c,Q c->P c):Hg r Q:=⟨λc hc=>h.data c<|hq c hc,λc c' hc hc'=>h.dist c c' (hq c hc)<|hq c' hc'⟩
theorem Hg.congr (h:Hg r P) (he:∀c,P c->BZ r' c=BZ r c):Hg r' P:=⟨λc hc=>by rw[he c hc];exact h.data c hc,λc c' hc hc' e=>h.dist c c' hc hc'<|by grind⟩
theorem Hg.metas (h:Hg r P) (hm:∀y∈m,y.Page.Kind≠1):Hg (r++m) P:=h.congr λc _=>by unfold BZ;rw[gM r m hm]
theorem qQ (h:Hg r P) (hy:¬P y.Page.Tx):Hg (r++ [y]) P:=h.congr λc hc=>by
 unfold BZ;rw[MJ,AG λhh=>hy (by rw[hh.2];exact hc)]
theorem qR (h:Hg r P) (hy:TR y.Page.Text=BZ r y.Page.Tx):Hg (r++ [y]) P:=h.congr λc hc=>by
 by_cases e:y.Page.Kind=1/\y.Page.Tx=c
 ·have:BZ (r++ [y]) c=TR y.Page.Text:=by unfold BZ;rw[MJ,AF e];rfl
  rw[this,hy,e.2]
 unfold BZ;rw[MJ,AG e]
theorem yX {s:ByteArray} (h:Hg r P) (hk:y.Page.Kind=1) (hn:¬P y.Page.Tx) (ht:TR y.Page.Text=some s) (hs:∀c,P c->BZ r c≠some s):Hg (r++ [y]) (λc=>P c\/c=y.Page.Tx):=by
 have b:BZ (r++ [y]) y.Page.Tx=some s:=by unfold BZ;rw[MJ,AF ⟨hk,rfl⟩];exact ht
 have a:∀c,P c->BZ (r++ [y]) c=BZ r c:=λc hc=>by unfold BZ;rw[MJ,AG λhh=>hn (by rw[hh.2];exact hc)]
 refine⟨λc hc=>?_,λc c' hc hc' e=>?_⟩
 ·rcases hc with hc|rfl
  ·rw[a c hc];exact h.data c hc
  grind
 rcases hc with hc|rfl<;>rcases hc' with hc'|rfl
 ·exact h.dist c c' hc hc'<|by grind
 ·grind
 ·grind
 rfl
theorem JO.filter (h:JO r) (p:Aq->Bool):JO (r.filter p):=by
 refine⟨⟨by have:=BG p r;have:=h.pages.len;omega,λy hy=>h.pages.text y (Be.1 hy).1,λy hy=>h.pages.seq y (Be.1 hy).1,λy hy=>h.pages.tx y (Be.1 hy).1,λy hy=>h.pages.cnt y (Be.1 hy).1,λy hy=>h.pages.part y (Be.1 hy).1⟩,h.inc.filter _,⟨λy hy z hz=>h.mu.uniq y (Be.1 hy).1 z (Be.1 hz).1⟩⟩
theorem JO.add (h:JO r) (hl:r.length<=1000000) (hb:JA y.Page) (hs:CT r<=y.Page.Seq) (hm:y.Page.Kind=2->∀z∈r,z.Page.Kind=2->z.Page.Tx=y.Page.Tx->z.Page.Part≠y.Page.Part):JO (r++ [y]):=by
 obtain⟨b1,b2,b3,b4,b5,b6,b7⟩:=hb
 have all:∀{P:Aq->Prop},(∀z∈r,P z)->P y->∀z∈r++ [y],P z:=λh1 h2 z hz=>by grind
 refine⟨⟨by simp;omega,all h.pages.text b6,all h.pages.seq b2,all h.pages.tx b3,all h.pages.cnt b4,all h.pages.part b5⟩,?_,⟨λu hu v hv k1 k2 e1 e2=>?_⟩⟩
 ·rw[AO];refine⟨h.inc,Jn _ _,λu hu v hv=>?_⟩;rw[Bu]at hv;rw[hv];have:=(Oj r).1 u hu;omega
 rw[Ap,Bu]at hu hv
 rcases hu with hu|rfl<;>rcases hv with hv|rfl
 ·exact h.mu.uniq u hu v hv k1 k2 e1 e2
 ·grind
 ·grind
 rfl
theorem fR (h:CT r<=y.Page.Seq):CT (r++ [y])=y.Page.Seq+1:=by rw[YK,AF h]
theorem JO.metas (h:JO r) (ht:∀y∈r,y.Page.Kind=2->y.Page.Tx<t):∀(m:List Aq) (k:Nat),r.length+m.length<=1000000->(∀(i:Nat) y,m[i]?=some y->y.Page.Kind=2/\y.Page.Tx=t/\y.Page.Part=i/\y.Page.Seq=CT r+i/\JA y.Page)->k<=m.length->JO (r++m.take k)/\CT (r++m.take k)=CT r+k
 |m,0,_,_,_=>by simpa using h
 |m,k+1,hl,hm,hk=>by
  obtain⟨ih1,ih2⟩:=JO.metas h ht m k hl hm (by omega);have hx:m[k]?=some m[k]:=Ab (by omega);obtain⟨k1,k2,k3,k4,k5⟩:=hm k _ hx;rw[Al (by omega),<-AE];refine⟨JO.add ih1 (by simp;omega) k5 (by rw[ih2,k4];omega) λ_ z hz a b=>?_,?_⟩
  ·rcases Ap.1 hz with hz|hz
   ·grind
   obtain⟨j,hj,rfl⟩:=A5 hz;rw[B4]at hj;rw[Kz];obtain⟨_,_,q3,_⟩:=hm j _ (Ab<|by omega);omega
  rw[fR (by rw[ih2,k4];omega),k4];omega
theorem vE (i:Int):∀(k:Int) (l:List Leaf),(XU i k l).length<=l.length
 |_,[]=>Ax _
 |k,x::l=>by
  rw[XU,Ak,AA];have:=vE i (k+1) l;have:(pg i k x).length<=1:=by
   unfold pg
   grind
  omega
theorem vF:∀(i:Int) (l:List Block),(KJ i l).length<=nl l
 |_,[]=>Ax _
 |i,b::l=>by
  rw[KJ,Ak];have:=vF (i+1) l;have:=vE i 0 b.Leaves;unfold nl at*
  grind
theorem AD9 (hf:BA f) (h:SR (KJ 0 f.Blocks) r):r.length<=40:=by
 have h1:=vF 0 f.Blocks;have h2:=hf.few;have h3:=h.2.len;omega
theorem LT:∀{ss:List AS} {ps:List Page} {i:Nat} {y:Aq},(Cl ss ps)[i]?=some y->ps[i]?=some y.Page
 |[],_,i,y,h=>by simp[Cl]at h
 |s::ss,[],i,y,h=>by simp[Cl]at h
 |s::ss,p::ps,0,y,h=>by
  simp only[Cl,List.zipWith_cons_cons,Jo,Aj]at h;rw[<-h];rfl
 |s::ss,p::ps,i+1,y,h=>by
  simp only[Cl,List.zipWith_cons_cons,List.getElem?_cons_succ]at h⊢;exact LT h
theorem bL (h:ss.length=ps.length):(Cl ss ps).length=ps.length:=by unfold Cl;grind
theorem Ye (ss:List AS) (ps:List Page) (k:Nat):Cl (ss.take k) (ps.take k)=(Cl ss ps).take k:=by unfold Cl;grind
theorem pT:∀(T:List ByteArray),(∀t∈T,(L t).length<=90)->(Qq T).length<=90*T.length
 |[],_=>by simp[Qq]
 |t::T,h=>by
  have:=pT T (λx hx=>h x<|by simp[hx]);have:=h t (by simp);simp only[Qq,K0,Ak,AA]at*;omega
theorem gO {r1:List Aq} (h:JO r1) (hl:r1.length<=1000) {a:List C3} (d:1<=T.length) (e:T.length<=9) (c:∀t∈T,(L t).length<=90) (f:Qq T=I3 a) (g:∀r∈a,GM r=true) (hm:∀(i:Nat) y,m[i]?=some y->(Cq (CT r1) (DO r1) T)[i]?=some y.Page) (j:m.length=T.length) (l:∀p∈Cq (CT r1) (DO r1) T,JA p) (k:Nat) (hk:k<=T.length):
  JO (r1++m.take k)/\(∀y∈m.take k,y.Page.Kind≠1)/\(k<T.length->Bj (r1++m.take k)=Bj r1)/\(k=T.length->∃q,Bj (r1++m.take k)=Bj r1++ [Tx.mk (DO r1) q a]):=by
 have n:∀(i:Nat) y,m[i]?=some y->∃t,T[i]?=some t/\y.Page=Page.mk 2 (CT r1+i) (DO r1) i T.length t:=by
  intro i y hy;have:=hm i y hy;unfold Cq at this
  grind
 have b:=Zs r1;obtain⟨c1,_⟩:=JO.metas h b.1 m k (by omega) (λi y hy=>by grind) (by omega);have hN:iR (m.take k) (DO r1) T.length T:=by
  refine⟨by grind,⟨d,e⟩,rfl,λi y hy=>?_⟩
  grind
 obtain⟨g1,g2⟩:=s8 r1 (λy hy=>(h.pages.tx y hy).1) b.1 b.2.1 hN;refine⟨c1,λy hy=>by rw[(hN.all hy).1];omega,λhh=>g1 (by grind),λhh=>g2 (by grind) a ?_⟩;rw[f];refine rZ g ?_;have:=pT T c
 grind
structure HY (d:Ay) (r:List Aq):Prop where
 dev:HH d r
 core:JO r
 data:Hg r (DQ (Bb d.Store))
theorem HY.few (h:HY d r):r.length<=40:=AD9 h.dev.fl h.dev.sr
theorem Lf (hg:BA g) (a:SR (KJ 0 g.Blocks) r):∃d,C5 g=some (d,true)/\HH d r/\d.Flash=g:=by
 obtain⟨d,r',h1,h2,h3⟩:=VT hg;have:r'=r:=by
  have h4:=h2.sr;rw[h3]at h4;exact h4.uniq a
 grind
theorem Uv (seq tx:Int) (T:List ByteArray):H7 seq (Cq seq tx T):=by
 have a:∀(l:List ByteArray) (i:Nat) (n:Int),n<=seq+i->H7 n (l.mapIdx λj t=>Page.mk 2 (seq+(i+j:Nat)) tx (i+j:Nat) T.length t):=by
  intro l
  induction l with
  |nil=>intro i n _;trivial
  |cons x l ih=>
   intro i n hn;rw[List.mapIdx_cons];refine⟨by simpa using hn,?_⟩;have:=ih (i+1) (seq+(i:Int)+1)<|by omega
   grind
 have:=a T 0 seq (by omega);unfold Cq;simpa using this
theorem tG (c:Int) (a:ByteArray) (tx:Int) (T:List ByteArray):H7 d.Seq (Dg d c a++Cq (Js d a) tx T):=by
 unfold Dg Js;by_cases e:L a=[]
 ·rw[AF e,AF e,A6];exact Uv _ _ _
 rw[AG e,AG e];exact⟨Jv _,Uv _ _ _⟩
theorem MH (ss:List AS) (ps:List Page) (k:Nat):∀y∈(Cl ss ps).take k,y.Page∈ps:=by
 intro y hy;obtain⟨i,hi,rfl⟩:=A5<|List.mem_of_mem_take hy;exact Ar<|LT<|Ab hi
def Fl (f:Flash) (n:Int):Prop:=∀b∈f.Blocks,b.Wear<=n
theorem iV {l:List Block} {n:Int} {x:Block} (h:∀y∈l,y.Wear<=n) (hx:x.Wear<=n):∀y∈si l b x,y.Wear<=n:=by
 intro y hy;by_cases e:0<=b
 ·obtain⟨c,rfl⟩:∃c:Nat,b=(c:Int):=⟨_,(AU e).symm⟩;rw[El]at hy
  grind
 unfold si at hy
 grind
theorem fK {s:AS} {n m:Int} (h:Fl f n) (hm:n<=m) (hs:s.Kind=1\/n+1<=m):Fl (Lq f s) m:=by
 have h0:∀y∈f.Blocks,y.Wear<=m:=λy hy=>by have:=h y hy;omega
 unfold Lq UN Vx Fl;by_cases e:s.Kind=1
 ·rw[AF e]
  cases hg:gi f.Blocks s.Block with
  |none=>exact h0
  |some x=>exact iV h0<|h0 x<|Ar (Cy hg).2
 rw[AG e]
 cases hg:gi f.Blocks s.Block with
 |none=>exact h0
 |some x=>exact iV h0 (by have:=h x<|Ar (Cy hg).2;grind)
theorem Vj {n:Int}:∀{f:Flash} {ss:List AS} {ps:List Page} {g:Flash},Jq f ss ps g->Fl f n->Fl g n
 |f,[],[],g,h,hw=>by rw[show g=f from h];exact hw
 |f,s::ss,p::ps,g,h,hw=>Vj h.2.2.2 (fK hw (Jv _) (.inl h.1))
 |f,[],q::ps,g,h,_=>h.elim
 |f,s::ss,[],g,h,_=>h.elim
theorem RD:∀{f:Flash} {ss:List AS} {ps:List Page} {g:Flash},Jq f ss ps g->∀s∈ss,s.Kind=1
 |f,[],[],g,h,s,hs=>by cases hs
 |f,s::ss,p::ps,g,h,x,hs=>by
  rcases DN.1 hs with rfl|hs
  ·exact h.1
  exact RD h.2.2.2 x hs
 |f,[],q::ps,g,h,_,_=>h.elim
 |f,s::ss,[],g,h,_,_=>h.elim
def Zn (f g:Flash):Prop:=∀n,Fl f n->Fl g n
theorem WJ (h:HY d r) {o:List C3} (x:∀r∈o,GM r=true) {a:ByteArray} {b:C3} {steps:List AS} (z:1<=T.length) (h0:T.length<=9) (h1:Qq T=I3 o) (v:∀t∈T,(L t).length<=90) (hp:Jq d.Flash steps (Dg d b.Chunk a++Cq (Js d a) d.Tx T) g) (l:∀p∈Dg d b.Chunk a++Cq (Js d a) d.Tx T,JA p) (h2:L a≠ []->¬DQ (Bb d.Store) b.Chunk) (k:Nat) (hk:k<=steps.length):
  ∃m d' r',Steps d.Flash (steps.take k) m/\BA m/\C5 m=some (d',true)/\HH d' r'/\d'.Flash=m/\r'=r++(Cl steps (Dg d b.Chunk a++Cq (Js d a) d.Tx T)).take k/\Zn d.Flash m/\JO r'/\Hg r' (DQ (Bb d.Store))/\
   (k<steps.length->Bj r'=Bj r)/\(k=steps.length->(∃q,Bj r'=Bj r++ [Tx.mk d.Tx q o])/\∀s,TR a=some s->L a≠ []->(∀c,DQ (Bb d.Store) c->BZ r c≠some s)->Hg r' (λc=>DQ (Bb d.Store) c\/c=b.Chunk)):=by
 obtain⟨a8,f⟩:=FD hp;obtain⟨m,hm⟩:=Vk k hp;obtain⟨h3,_⟩:=FD hm;have h4:=W8 h.dev.fl h3;have a6:=h.few
 have h5:∀y∈r,y.Page.Seq<d.Seq:=λy hy=>by rw[h.dev.seq];exact(Oj r).1 y hy
 have h6:=tG (d:=d) b.Chunk a d.Tx T;have ascT:∀(ps:List Page) (n:Int) (k:Nat),H7 n ps->H7 n (ps.take k):=by
  intro ps
  induction ps with
  |nil=>grind
  |cons p ps ih=>
   intro n k ha
   cases k with
   |zero=>trivial
   |succ k=>exact⟨ha.1,ih _ k ha.2⟩
 have h7:=cU h.dev.fl h.dev.sr hm h5<|ascT _ _ k h6;rw[Ye]at h7;obtain⟨d',u1,u2,u3⟩:=Lf h4 h7;refine⟨m,d',r++(Cl steps<|Dg d b.Chunk a++Cq (Js d a) d.Tx T).take k,h3,h4,u1,u2,u3,rfl,λ_=>Vj hm,?_⟩;have w:(Cq (Js d a) d.Tx T).length=T.length:=by unfold Cq;grind
 have u:=bL f;by_cases e:L a=[]
 ·
  have e1:Dg d b.Chunk a=[]:=by unfold Dg;rw[AF e]
  have e2:Js d a=d.Seq:=by unfold Js;rw[AF e]
  rw[e1,e2,A6]at u f l⊢;rw[e2]at w;rw[h.dev.seq,h.dev.tx]at u f l w⊢;obtain⟨a1,a2,a3,a4⟩:=gO h.core (by omega) z h0 v h1 x (m:=Cl steps<|Cq (CT r) (DO r) T) (λi y hy=>LT hy) (by omega) l k (by omega);exact⟨a1,h.data.metas a2,λhh=>a3 (by omega),λhh=>⟨a4 (by omega),λs _ h8=>absurd e h8⟩⟩
 have e1:Dg d b.Chunk a=[Page.mk 1 d.Seq b.Chunk 0 1 a]:=by unfold Dg;rw[AG e]
 have e2:Js d a=d.Seq+1:=by unfold Js;rw[AG e]
 rw[e1,e2]at u f l⊢;rw[e2]at w;rw[F5]at u f l⊢;rw[AA]at f u
 match hsteps:steps,f with
 |[],f=>simp at f
 |s0::ss,f=>
  have ef:Cl (s0::ss) (Page.mk 1 d.Seq b.Chunk 0 1 a::Cq (d.Seq+1) d.Tx T)=Aq.mk s0.Block s0.Leaf (Page.mk 1 d.Seq b.Chunk 0 1 a)::Cl ss (Cq (d.Seq+1) d.Tx T):=rfl;rw[ef]
  cases k with
  |zero=>
   rw[Jm,A8];exact⟨h.core,h.data,λ_=>rfl,λhh=>by simp at hh⟩
  |succ k=>
   rw[Na];generalize h9:Aq.mk s0.Block s0.Leaf (Page.mk 1 d.Seq b.Chunk 0 1 a)=y0;have j:y0.Page=Page.mk 1 d.Seq b.Chunk 0 1 a:=by rw[<-h9]
   have c1:JO (r++ [y0]):=JO.add h.core (by omega) (by grind) (by rw[j,h.dev.seq];exact Jv _) (λhh=>by grind);have g1:Bj (r++ [y0])=Bj r:=Yd r (by rw[j];simp);have s1:CT (r++ [y0])=d.Seq+1:=by rw[fR (by rw[j,h.dev.seq];exact Jv _),j]
   have t1:DO (r++ [y0])=d.Tx:=by rw[V4,AG (by rw[j];simp),h.dev.tx]
   have a7:∀p∈Cq (d.Seq+1) d.Tx T,JA p:=λp hp=>l p<|by simp[hp]
   have a0:(Cl ss<|Cq (d.Seq+1) d.Tx T).length=T.length:=by grind
   rw[List.append_cons];obtain⟨a1,a2,a3,a4⟩:=gO c1 (by simp;omega) z h0 v h1 x (m:=Cl ss<|Cq (d.Seq+1) d.Tx T) (by rw[s1,t1];exact λi y hy=>LT hy) a0 (by grind) k (by omega);have dz:Hg (r++ [y0]) (DQ<|Bb d.Store):=qQ h.data (by rw[j];exact h2 e);rw[g1,t1]at a4;rw[g1]at a3;have a9:ss.length=T.length:=by simp at f;omega
   refine⟨a1,dz.metas a2,λhh=>a3 (by simp at hh;omega),λhh=>⟨a4 (by simp at hh;omega),λs hs _ a5=>?_⟩⟩;have:=yX h.data (y:=y0) (s:=s) (by rw[j]) (by rw[j];exact h2 e) (by rw[j];exact hs) a5;rw[j]at this;exact this.metas a2
theorem mC (h:C9 s):Nm s.Arena:=by unfold Nm;have:=h.few;omega
theorem AAG (h:C9 s) (x:Int):x∈GE s s.Vols.length↔∃p∈Bb s,x∈p.2:=by
 unfold GE Bb;rw[DR];simp only[List.mem_flatten,A9]
 have a:∀v∈s.Vols,(Ia s.Arena v.Root).getD []=Ff s.Arena.Knots v.Root:=λv hv=>by
  rw[Ot _ (by have:=h.few;omega) h.ar<|h.root _<|A9.2 ⟨v,hv,rfl⟩];rfl
 grind
theorem GD (h:C9 s):∃l,Fq s=some l/\asc l/\(∀x,x∈l↔DQ (Bb s) x)/\l.length<=16777216:=by
 have:=h.len;obtain⟨l,h1,h2,h3⟩:=XP s (by omega)<|mC h;refine⟨l,h1,h2.1,λx=>?_,h3⟩;rw[h2.2 x,AAG h];unfold DQ;exact And.comm
theorem YS (h:C9 s) (hc:DQ (Bb s) c):0<c/\c<s.Next:=by
 obtain⟨h0,p,hp,hx⟩:=hc;unfold Bb at hp;obtain⟨v,hv,rfl⟩:=A9.1 hp;exact⟨h0,h.lt _ (A9.2 ⟨v,hv,rfl⟩) c hx⟩
def C8 (r:List Aq) (live:List Int) (a:Int):List Bool:=live.foldl (dY r)<|r.map<|Du a
theorem Kn (r:List Aq) (live:List Int) (a:Int):(C8 r live a).length=r.length:=by unfold C8;rw[bM,Bs]
theorem Qa (r:List Aq) (live:List Int) (a:Int) (hy:r[j]?=some y):(C8 r live a)[j]?=some (Du a y||live.any (λc=>PL c r r.length==some j)):=by
 unfold C8;rw[aG,CL,hy];rfl
theorem ABZ (h:PL c r r.length=some j):KL r c=r[j]? :=by
 rw[aD<|PK c r r.length<|Ax _,h];rfl
theorem ACp (h:KL r c=some y):∃j,PL c r r.length=some j/\r[j]?=some y:=by
 have:=aD<|PK c r r.length<|Ax _;rw[h]at this
 cases ht:PL c r r.length with
 |none=>grind
 |some j=>grind
theorem wA {p:Nat->Bool} (h:cn n p=0):∀j,j<n->p j=false:=by
 intro j hj;unfold cn at h;have:=List.length_eq_zero_iff.1 h;rw[Bh]at this
 grind
theorem ACg {live:List Int} {a b:Int} (h:cn r.length (λj=>(C8 r live a)[j]?.getD false&&bk r b j)=0):∀y∈r,y.Block=b->(y.Page.Kind=2->y.Page.Tx<a)/\∀c∈live,KL r c≠some y:=by
 intro y hy hb;obtain⟨j,hj,rfl⟩:=A5 hy;have hx:=Ab hj;have h1:=wA h j hj;rw[Qa r live a hx]at h1;have h2:bk r b j=true:=by unfold bk;grind
 rw[h2,Bool.and_true,AR,Bool.or_eq_false_iff]at h1;refine⟨λhk=>?_,λc hc hn=>?_⟩
 ·have:=h1.1;unfold Du at this
  grind
 
 obtain⟨i,i1,i2⟩:=ACp hn;have h3:=h1.2;rw[Vv]at h3;have h4:=h3 c hc;rw[i1]at h4;by_cases e:i=j
 ·grind
 
 have hi:=(Af.1 i2).1;have h5:=wA h i hi;rw[Qa r live a i2]at h5;have h6:bk r b i=true:=by unfold bk;grind
 grind
theorem ZR (h:HH d r):∃l,IY d=some l/\l.length<=10/\∀b∈l,∃x,gi d.Flash.Blocks b=some x/\x.Bad=false/\∀y∈r,y.Block=b->(y.Page.Kind=2->y.Page.Tx<d.Base)/\∀c,DQ (Bb d.Store) c->KL r c≠some y:=by
 obtain⟨live,l1,l2,l3,l4⟩:=GD h.st;have hn:=h.fl.n;unfold IY;rw[h.scan.s,l1];simp only[Aa];rw[N8 r live d.Base h.scan.len l4];simp only[Aa];have e:live.foldl (dY r) (r.map<|Du d.Base)=C8 r live d.Base:=rfl;rw[e];obtain⟨b,q1,q2⟩:=AJ (body:=λs:List Int×Int=>Ek d r (C8 r live d.Base) s.1 s.2) (λ(o:List Int) i=>(o,i)) d.Flash.Blocks.length
  (λi o=>o.length<=i/\∀b∈o,∃x,gi d.Flash.Blocks b=some x/\x.Bad=false/\∀y∈r,y.Block=b->(y.Page.Kind=2->y.Page.Tx<d.Base)/\∀c,DQ (Bb d.Store) c->KL r c≠some y)
  (λo=>o.length<=10/\∀b∈o,∃x,gi d.Flash.Blocks b=some x/\x.Bad=false/\∀y∈r,y.Block=b->(y.Page.Kind=2->y.Page.Tx<d.Base)/\∀c,DQ (Bb d.Store) c->KL r c≠some y)
  (λo i hi ho=>by
   have hx:=Ab hi;have hP:=h.fl.blk _<|Az hi;obtain⟨nbl,_,bl⟩:=pW d.Flash.Blocks[i] (by rw[hP.four];omega);simp only[Ek,DW hi,Au,hx,Aa];rw[bl,aA r _ (i:Int) h.scan.len<|Kn _ _ _,ad1];simp only[Aa];refine .inl ?_
   cases a:d.Flash.Blocks[i].Bad with
   |true=>grind
   |false=>
    simp only[AN,Ae]
    cases g:(!(!decide (nbl<ln d.Flash.Blocks[i].Leaves)))with
    |false=>grind
    |true=>
     simp only[Ae,Aa]
     cases hz:((((cn r.length (λj=>(C8 r live d.Base)[j]?.getD false&&bk r (i:Int) j):Nat)):Int)==0)with
     |false=>grind
     |true=>
      simp only[Ae];have:=ho.1;rw[BD (by simp;omega)];refine⟨_,rfl,by simp;omega,λb hb=>?_⟩;rw[Ap,Bu]at hb
      rcases hb with hb|rfl
      ·exact ho.2 b hb
      refine⟨_,by rw[Au];exact hx,a,λy hy f=>?_⟩;have hz':cn r.length (λj=>(C8 r live d.Base)[j]?.getD false&&bk r (i:Int) j)=0:=by grind
      obtain⟨a1,a2⟩:=ACg hz' y hy f
      grind)
  (λo ho=>⟨o,by simp only[Ek,DH],by omega,ho.2⟩) (s:=[]) ⟨by simp,λb hb=>by cases hb⟩
 grind
theorem Hu (h:HH d r) (h':HH d' r') (e:CS (Bj r')=CS (Bj r)):Bb d'.Store=Bb d.Store/\d'.Store.Next=d.Store.Next/\d'.Base=d.Base:=by
 have h1:=h'.ab;rw[e,<-h.ab]at h1
 injection h1 with h1 h2
 exact⟨h1,h2,by rw[h'.base,h.base,e]⟩
theorem ABT (h:HY d r) (hb:∀y∈r,y.Block=b->(y.Page.Kind=2->y.Page.Tx<d.Base)/\∀c,DQ (Bb d.Store) c->KL r c≠some y) (hg:BA g) (hp:KJ 0 g.Blocks=(KJ 0 d.Flash.Blocks).filter λy=>y.Block !=b):
  ∃d',C5 g=some (d',true)/\d'.Flash=g/\HY d' (r.filter λy=>y.Block !=b)/\Bb d'.Store=Bb d.Store/\d'.Store.Next=d.Store.Next/\d'.Base=d.Base/\∀c,DQ (Bb d.Store) c->BZ (r.filter λy=>y.Block !=b) c=BZ r c:=by
 have a:SR (KJ 0 g.Blocks) (r.filter λy=>y.Block !=b):=by rw[hp];exact h.dev.sr.filter _
 obtain⟨d',u1,u2,u3⟩:=Lf hg a
 have hs:=i8 r h.core.pages h.core.mu (λy=>y.Block !=b) (λy hy hk ht=>by
  have:y.Block≠b:=λe=>by
   have:=(hb y hy e).1 hk;rw[h.dev.base]at this;omega
  simpa using this)
 obtain⟨e1,e2,e3⟩:=Hu h.dev u2 hs
 have ht:∀c,DQ (Bb d.Store) c->BZ (r.filter λy=>y.Block !=b) c=BZ r c:=λc hc=>by
  obtain⟨s,f⟩:=h.data.data c hc;unfold BZ at f⊢
  cases hn:KL r c with
  |none=>grind
  |some y=>
   have hy:=(Wg hn).1;have:KL (r.filter λy=>y.Block !=b) c=some y:=oP _ hn (by grind);rw[this]
 refine⟨d',u1,u3,⟨u2,h.core.filter _,?_⟩,e1,e2,e3,ht⟩;rw[e1];exact h.data.congr ht
end Go.TI
