/- What is trimmed reads empty, and nothing else does. No condition; no program is in sight. -/
import Derived.Test.YtjjfmdpchohfaaaGreatTRP1
set_option linter.unusedVariables false
set_option linter.unusedSimpArgs false
namespace Go.TI
open Go
theorem zR {l:List Leaf} (h:∀x∈l,x.Is=0):nb l=l.length:=by
 induction l with
 |nil=>rfl
 |cons x l ih=>
  have h1:=ih (λy hy=>h y<|by simp[hy]);unfold nb at h1⊢;rw[Cx,MQ,h1,Yl,AB (by grind),A8];omega
theorem ABA {l:List Leaf} (h:∀x∈l,x.Is≠0):nb l=0:=by
 induction l with
 |nil=>rfl
 |cons x l ih=>
  have h1:=ih (λy hy=>h y<|by simp[hy]);unfold nb at h1⊢;rw[Cx,MQ,h1,Yl,AA<|by grind]
theorem AC2 (l m:List Leaf):nb (l++m)=nb l+nb m:=by unfold nb;grind
theorem KV.nb {b:Block} (h:KV b):nb b.Leaves=4-L4 b.Leaves:=by
 have a:=iX b.Leaves;have h4:=h.four;have e:Go.TI.nb b.Leaves=Go.TI.nb (b.Leaves.take<|L4 b.Leaves)+Go.TI.nb (b.Leaves.drop<|L4 b.Leaves):=by rw[<-AC2,C7]
 rw[e,ABA (l:=b.Leaves.take<|L4 b.Leaves),zR (l:=b.Leaves.drop<|L4 b.Leaves),CV,h4]
 ·omega
 ·intro x hx;obtain⟨k,hk,rfl⟩:=A6 hx;rw[CV]at hk;rw[UE];exact h.blank (k:=L4 b.Leaves+k) (by omega)<|Ab _
 intro x hx;obtain⟨k,hk,rfl⟩:=A6 hx;rw[BK]at hk;rw[Ki];exact(P3 b.Leaves).1 k _ (by omega) (Ab _)
def Ui (f:Flash) (b l:Int):Prop:=∃x,gi f.Blocks b=some x/\x.Bad=false/\l=(L4 x.Leaves:Int)/\L4 x.Leaves<4
variable {r m r':List Aq} {y:Aq} {f g:Flash} {t c b:Int} {d d':Ay} {α β:Type} {n j:Nat} {P:Int->Prop} {s:Store} {texts T:List ByteArray} {l:List AW} {p:Page} {x:Tx} {a ss:List AS} {ps:List Page}
theorem cA (h:B9 f):∃v:Int,JT f=some v/\((v= -1/\∀b∈f.Blocks,b.Bad=false->L4 b.Leaves=0\/L4 b.Leaves=4)\/∃x,gi f.Blocks v=some x/\x.Bad=false/\L4 x.Leaves<4):=by
 unfold JT;have hn:=h.n;obtain⟨b,h1,h3⟩:=AJ (body:=λs:Int=>DX f s) (λ(_:Unit) i=>i) f.Blocks.length (λi _=>∀(j:Nat) b,j<i->f.Blocks[j]?=some b->b.Bad=false->L4 b.Leaves=0\/L4 b.Leaves=4) (λb=>(b= .inl ()/\∀b∈f.Blocks,b.Bad=false->L4 b.Leaves=0\/L4 b.Leaves=4)\/∃i:Nat,∃x,b= .inr (i:Int)/\f.Blocks[i]?=some x/\x.Bad=false/\L4 x.Leaves<4)
  (λ_ i hi hs=>by
   have hg:f.Blocks[i]?=some f.Blocks[i]:=Ab hi;have hP:=h.blk _<|Az hi;have c:=hP.nb;have h4:=hP.four;have d:=iX f.Blocks[i].Leaves;simp only[DX,Eh hi];rw[Zr f i hg<|by omega];simp only[Aa,Ar,hg];rw[ad1]
   cases a:f.Blocks[i].Bad with
   |true=>
    refine .inl ⟨(),rfl,λj b hj hb h0=>?_⟩
    grind
   |false=>
    simp only[AM,Ae];by_cases e:0<L4 f.Blocks[i].Leaves/\L4 f.Blocks[i].Leaves<4
    ·rw[Ad (by omega),Ad<|by omega]
     grind
    have:(cond (decide<|((nb f.Blocks[i].Leaves:Nat):Int)>0) (some<|decide<|((f.Blocks[i].Leaves.length-nb f.Blocks[i].Leaves:Nat):Int)>0) (some false):Option Bool)=some false:=by
     by_cases e2:nb f.Blocks[i].Leaves=0
     ·grind
     rw[Ad (by omega),Ah<|by omega];rfl
    rw[this];refine .inl ⟨(),rfl,λj b hj hb h0=>?_⟩
    grind)
  (λ_ hs=>⟨_,by simp only[DX,DN],.inl ⟨rfl,λb hb=>by
   obtain⟨j,hj,rfl⟩:=A6 hb
   exact hs j _ hj<|Ab hj⟩⟩) (s:=()) (λj b hj=>by omega)
 rw[h1]
 rcases h3 with⟨rfl,h3⟩|⟨i,x,rfl,h4,h5,h6⟩
 ·grind
 exact⟨(i:Int),rfl,.inr ⟨x,by rw[Ar];exact h4,h5,h6⟩⟩
theorem mM (h:B9 f):∃b l:Int,∃ok:Bool,Lu f=some (b,l,ok)/\(ok=true->Ui f b l)/\(ok=false->∀b∈f.Blocks,b.Bad=false->L4 b.Leaves=4):=by
 have hn:=h.n;obtain⟨o,o1,o2⟩:=cA h;obtain⟨e1,_⟩:=TL f h.cap;unfold Lu;rw[PP h,o1,e1];simp only[Aa,Ag,Ac]
 rcases o2 with⟨rfl,o2⟩|⟨x,o2,o3,o4⟩
 ·rw[Ah<|by omega];simp only[Ac];have a:∀y∈PC f,Ui f y 0:=by
   intro y hy;unfold PC at hy;obtain⟨i,hi,rfl⟩:=A9.1 hy;obtain⟨d,c⟩:=Bc.1 hi;rw[KZ]at d;unfold Qv at c;rw[Ab d]at c;simp only[Ai,Dv,A3]at c;have hP:=h.blk _<|Az d;have:=hP.nb;have:=hP.four;exact⟨_,by rw[Ar];grind,c.1,by omega,by omega⟩
  cases g:PC f with
  |nil=>
   refine⟨0,0,false,rfl,by simp,λ_ b hb j=>?_⟩
   rcases o2 b hb j with e|e
   ·obtain⟨i,hi,rfl⟩:=A6 hb;have hm:(i:Int)∈PC f:=by
     unfold PC;refine A9.2 ⟨i,Bc.2 ⟨KZ.2 hi,?_⟩,rfl⟩;unfold Qv;rw[Ab hi];have hP:=h.blk _<|Az hi;have:=hP.nb;have:=hP.four
     grind
    grind
   exact e
  |cons x l=>
   rw[g]at a;have t:(x::l).length<=10:=by
    rw[<-g];unfold PC
    grind
   have m:(ln (x::l)==0)=false:=by simp[ln];omega
   rw[m];simp only[Ac];have p:gi (x::l) 0=some x:=Ar (i:=0);rw[p];simp only[Aa]
   have k:∀y,Ui f y 0->∃z,gi f.Blocks y=some z:=λy ⟨z,hz,_⟩=>⟨z,hz⟩
   obtain⟨w,w1,w2⟩:=V5 (body:=λs:Int×Int=>Fk f (x::l) s.1 s.2) (λ(b:Int) i=>(b,i)) (x::l).length (λ_ b=>Ui f b 0) (λb=>Ui f b 0)
    (λb i hi hb=>by
     have hg:(x::l)[i]?=some (x::l)[i]:=Ab hi;have hp:=a _<|Az hi;obtain⟨z1,q⟩:=k _ hp;obtain⟨z2,r⟩:=k _ hb;simp only[Fk,Eh hi,Ar,hg,Aa,q,r];rw[ad1]
     grind)
    (λb hb=>⟨b,by simp only[Fk,DN],hb⟩) l.length 1 x (by simp;omega) (a x<|by simp)
   have e1':((1:Nat):Int)=1:=rfl;rw[e1']at w1;rw[w1];exact⟨w,0,true,rfl,λ_=>w2,by simp⟩
 obtain⟨k1,k2⟩:=CM o2;rw[cT,o2,Aa,Kx x (h.blk x<|Au k2).four];exact⟨_,_,true,rfl,λ_=>⟨x,o2,o3,rfl,o4⟩,by simp⟩
def AAC (f:Flash) (b:Int):Prop:=∃x,gi f.Blocks b=some x/\x.Bad=false/\x.Wear≠1000000000
def UJ (f:Flash) (b:Int):Flash:=Flash.mk (match gi f.Blocks b with
 |some x=>si f.Blocks b<|Block.mk false (x.Wear+1) Ok
 |none=>f.Blocks)
theorem yN (h:B9 f) (b:Int):(AAC f b/\TS f b=some (UJ f b,true))\/(¬AAC f b/\TS f b=some (f,false)):=by
 have hn:=h.n;unfold TS;rw[Dc f h.cap,PP h];simp only[Aa,Ag,Ac];rw[Bq,Ch,Ew];simp only[Aa];by_cases hb:0<=b/\b<=(f.Blocks.length:Int)-1
 ·rw[Ad hb];simp only[Ag,Ac];have hg:=KM (l:=f.Blocks) hb.1 (by omega);have hm:f.Blocks[b.toNat]'(by omega)∈f.Blocks:=Az _;generalize c:f.Blocks[b.toNat]'(by omega)=x at hg hm;have hP:=h.blk x hm;rw[hg];simp only[Aa]
  cases a:x.Bad with
  |true=>
   refine .inr ⟨?_,rfl⟩;rintro⟨z,hz,h2,_⟩
   grind
  |false=>
   simp only[Ac,Aa];by_cases hw:x.Wear=1000000000
   ·rw[show(x.Wear==1000000000)=true by simpa using hw];refine .inr ⟨?_,rfl⟩;rintro⟨z,hz,_,h3⟩
    grind
   rw[show(x.Wear==1000000000)=false by simpa using hw];simp only[Ac];rw[Wz];simp only[Aa];have:=hP.wear;rw[Cs];refine .inl ⟨⟨x,hg,a,hw⟩,?_⟩;unfold UJ;rw[hg]
 rw[Ah hb];refine .inr ⟨?_,rfl⟩;rintro⟨z,hz,_⟩;obtain⟨k1,k2⟩:=CM hz
 grind
theorem oS {bad:Bool} {w:Int} (h:0<=w/\w<=1000000000):KV (Block.mk bad w Ok):=by
 refine⟨rfl,h,λx hx=> .inl ?_,λk x y hx hy _=>?_⟩
 ·have:=Ee hx;rw[this];exact⟨rfl,rfl⟩
 have:=Ee<|Au hy;rw[this]
theorem Zp (i:Int):∀(k:Int) (l:List Leaf),(∀x∈l,x.Is≠1)->Xn i k l=[]
 |k,[],_=>rfl
 |k,x::l,h=>by
  rw[Xn,Zp i (k+1) l (λy hy=>h y (by simp[hy]))];unfold pg
  grind
theorem WW (h:B9 f) (hc:AAC f b):B9 (UJ f b)/\K2 0 (UJ f b).Blocks=(K2 0 f.Blocks).filter λy=>y.Block !=b:=by
 obtain⟨x,h1,h2,h3⟩:=hc;obtain⟨k1,k2⟩:=CM h1;obtain⟨c,rfl⟩:∃c:Nat,b=(c:Int):=⟨_,(AX k1).symm⟩;rw[Bi]at k2;have hP:=h.blk x<|Au k2;have hw:=hP.wear;unfold UJ;rw[h1];simp only[EU];exact⟨Sw h (oS ⟨by omega,by omega⟩),mY k2 (Zp _ _ _ λy hy=>by rw[Ee hy];simp)⟩
def TP (f:Flash) (s:AS):Prop:=(s.Kind=1/\nE f s.Block s.Leaf s.Text)\/(s.Kind=2/\AAC f s.Block)
def Me (f:Flash) (s:AS):Flash:=if s.Kind=1 then Vx f s.Block s.Leaf (Leaf.mk 1 s.Text)else UJ f s.Block
theorem TX (h:B9 f) (s:AS):(TP f s/\Mu f s=some (Me f s,true))\/(¬TP f s/\Mu f s=some (f,false)):=by
 unfold Mu;by_cases k1:s.Kind=1
 ·rw[show(s.Kind==1)=true by simpa using k1];simp only[Ae]
  rcases mJ h s.Block s.Leaf s.Text with⟨h1,h2⟩|⟨h1,h2⟩
  ·rw[h2];exact .inl ⟨.inl ⟨k1,h1⟩,by unfold Me;rw[AB k1];rfl⟩
  rw[h2];exact .inr ⟨by rintro(hh|hh);exact h1 hh.2;omega,rfl⟩
 rw[show(s.Kind==1)=false by simpa using k1];simp only[Ac];by_cases k2:s.Kind=2
 ·rw[show(s.Kind==2)=true by simpa using k2];simp only[Ae]
  rcases yN h s.Block with⟨h1,h2⟩|⟨h1,h2⟩
  ·rw[h2];exact .inl ⟨.inr ⟨k2,h1⟩,by unfold Me;rw[AA k1];rfl⟩
  rw[h2];exact .inr ⟨by rintro(hh|hh);omega;exact h1 hh.2,rfl⟩
 rw[show(s.Kind==2)=false by simpa using k2];simp only[Ac];rw[Dc f h.cap];exact .inr ⟨by rintro(hh|hh)<;>omega,rfl⟩
theorem tA {s:AS} (h:B9 f) (hs:TP f s):B9 (Me f s):=by
 unfold Me
 rcases hs with⟨h1,h2⟩|⟨h1,h2⟩
 ·rw[AB h1];exact(Uf h h2).1
 rw[AA<|by omega];exact(WW h h2).1
theorem YR {t:ByteArray} {ok:Bool} (h:B9 f) (steps:List AS) (hs:steps.length<=1000) (p:Page) (ht:Eu p=some (t,ok)) (hl:ok=true->1<=(L t).length/\(L t).length<=120):
  (ok=true/\∃b l,Ui f b l/\Lu f=some (b,l,true)/\DJ f steps p=some (Vx f b l (Leaf.mk 1 t),steps++ [AS.mk 1 b l t],true))\/DJ f steps p=some (f,steps,false):=by
 obtain⟨b,l,room,p1,p2,_⟩:=mM h;unfold DJ;rw[ht,p1];simp only[Aa]
 cases ok with
 |false=>exact .inr rfl
 |true=>
  simp only[Ag,Ac,Aa]
  cases room with
  |false=>exact .inr rfl
  |true=>
   simp only[Ag,Ac];have hp:=p2 rfl;have hl':=hl rfl;have hm:nE f b l t:=by
    obtain⟨x,a1,a2,a3,a4⟩:=hp;exact⟨x,a1,a2,a3,a4,hl'⟩
   rcases TX h (AS.mk 1 b l t)with⟨h1,h2⟩|⟨h1,h2⟩
   ·rw[h2];rw[Aa,BC (by simp;omega)];refine .inl ⟨trivial,b,l,hp,rfl,?_⟩;rfl
   exact absurd (.inl ⟨rfl,hm⟩) h1
theorem oV (u:ByteArray) (hu:(L u).length<=20000) (a:Nat) (ha:a<=(L u).length):∃n c,Di (Ev.mk u (a:Int) false)=some (n,c)/\c.text_=u/\(c.bad_=true\/c.bad_=false/\∃b:Nat,c.at_=b/\a<b/\b<=(L u).length)/\(c.bad_=true->c.at_=a):=by
 obtain⟨r,h1,_,h2⟩:=I8 u (a:Int) (by omega) ⟨by omega,by omega⟩;rw[JX u _ hu h1]
 rcases h2 with⟨e1,e2,e3⟩|⟨e1,a',b,n,k1,k2,k3,k4,k5,_⟩
 ·grind
 grind
theorem tM (t:ByteArray) (ht:(L t).length<=20000):∀(n a:Nat) (b:List Ct),(L t).length-a<=n->a<=(L t).length->b.length<=a->∃r,Ao (λs:List Ct×ByteArray×Int×Bool=>E6 t s.1 s.2.1 s.2.2.1 s.2.2.2) (b,t,(a:Int),false)=some r/\(r= .inr ([],false)\/∃l:List Ct,r= .inl l/\l.length<=(L t).length)
 |n,a,b,hn,ha,ho=>by
  rw[Aw];simp only[E6];rw[Bz];by_cases c:a<(L t).length
  ·rw[Ad (by omega:(a:Int)<((L t).length:Int))];simp only[Ae,Aa,AM];rw[Fg t c,ad1];simp only[Aa];obtain⟨n1,c1,v1,t1,h1,z1⟩:=oV t ht (a+1) (by omega);rw[v1];simp only[Aa]
   rcases h1 with e1|⟨e1,b1,k1,k2,k3⟩
   ·
    have hz:=z1 e1;obtain⟨c1t,c1a,c1b⟩:=c1;simp only at t1 e1 hz;subst t1 e1 hz;rw[Hp _ _ ht ⟨by omega,by omega⟩]
    grind
   obtain⟨c1t,c1a,c1b⟩:=c1;simp only at t1 e1 k1;subst t1 e1 k1;obtain⟨n2,c2,v2,t2,h2,z2⟩:=oV c1t ht b1 k3;rw[v2];simp only[Aa]
   rcases h2 with e2|⟨e2,b2,m1,m2,m3⟩
   ·rw[e2]
    grind
   rw[e2];simp only[Ac];rw[N3];simp only[Aa]
   cases GC _ with
   |false=>grind
   |true=>
    simp only[Ag,Ac];rw[BC (by simp;omega),t2,m1];simp only[Aa]
    match n,hn with
    |n+1,hn=>exact tM c1t ht n b2 _ (by omega) m3 (by simp;omega)
    |0,hn=>omega
  rw[Ah<|by omega]
  grind
noncomputable def eQ (t:ByteArray):Option (List Ct):=match Ih t with
 |some (l,true)=>some l
 |_=>none
theorem bC (t:ByteArray) (ht:(L t).length<=20000):∃l ok,Ih t=some (l,ok)/\eQ t=(if ok=true then some l else none)/\l.length<=20000:=by
 obtain⟨r,h1,h2⟩:=tM t ht (L t).length 0 [] (by omega) (by omega) (by simp);unfold eQ Ih
 grind
def pM (t a b:Int) (y:Aq):Bool:=y.Page.Kind==2&&(y.Page.Tx==t&&(y.Page.Part==a&&(!decide (a>0)||y.Page.Count==b)))
def Sv (r:List Aq) (t a b:Int):Option Aq:=r.find?<|pM t a b
theorem kD {i:Nat} {x:α} (l:List α) (p:α->Bool) (h:∀j x,j<i->l[j]?=some x->p x=false) (hx:l[i]?=some x) (hp:p x=true):l.find? p=some x:=by
 obtain⟨h1,h2⟩:=JG hx;rw[h1,List.find?_append];have:(l.take i).find? p=none:=by
  rw[Tw];intro y hy;obtain⟨j,hj,rfl⟩:=A6 hy
  grind
 grind
theorem uK (l:List α) (p:α->Bool) (h:∀(j:Nat) x,l[j]?=some x->p x=false):l.find? p=none:=by
 rw[Tw];intro y hy;obtain⟨j,hj,rfl⟩:=A6 hy;rw[h j _<|Ab hj];simp
structure G9 (r:List Aq):Prop where
 len:r.length<=1048576
 text:∀y∈r,(L y.Page.Text).length<=90
 seq:∀y∈r,1<=y.Page.Seq/\y.Page.Seq<=1000000000
 tx:∀y∈r,1<=y.Page.Tx/\y.Page.Tx<=1000000000
 cnt:∀y∈r,1<=y.Page.Count/\y.Page.Count<=9
 part:∀y∈r,0<=y.Page.Part/\y.Page.Part<y.Page.Count
def Qq (a seq:Int) (y:Aq):Int:=if a=0\/y.Page.Seq<seq then y.Page.Seq else seq
theorem AAa (r:List Aq) (hr:G9 r) (t a c:Int) (hp:0<=a) (text:ByteArray) (ht:(L text).length<=10000) (seq:Int):
  ∃text2,Ao (λs:Int×ByteArray×Bool×Int×Int=>JE r t a s.1 s.2.1 s.2.2.1 s.2.2.2.1 s.2.2.2.2) (c,text,false,0,seq)=some (match Sv r t a c with
   |none=>(c,text,false,seq)
   |some y=>(y.Page.Count,text2,true,Qq a seq y))/\(∀y,Sv r t a c=some y->L text2=L text++L y.Page.Text):=by
 have g:=hr.len;obtain⟨b,h1,h2⟩:=AJ (body:=λs:Int×ByteArray×Bool×Int×Int=>JE r t a s.1 s.2.1 s.2.2.1 s.2.2.2.1 s.2.2.2.2) (λ(s:Int×ByteArray×Bool×Int) i=>(s.1,s.2.1,s.2.2.1,i,s.2.2.2)) r.length
  (λi s=>(s=(c,text,false,seq)/\∀(j:Nat) x,j<i->r[j]?=some x->pM t a c x=false)\/∃y u,Sv r t a c=some y/\L u=L text++L y.Page.Text/\s=(y.Page.Count,u,true,Qq a seq y))
  (λb=>(b=(c,text,false,seq)/\Sv r t a c=none)\/∃y u,Sv r t a c=some y/\L u=L text++L y.Page.Text/\b=(y.Page.Count,u,true,Qq a seq y))
  (λs i hi hs=>by
   have hx:=Ab hi;have hm:r[i]∈r:=Az hi;simp only[JE,IX,Ad hi,Ae,Aa]
   rcases hs with⟨rfl,hs⟩|⟨y,u,f1,f2,rfl⟩
   ·simp only[AM,Ae,Ar,hx,Aa];have e:(cond (r[i].Page.Kind !=2) (some true) (cond (r[i].Page.Tx !=t) (some true)<|cond (r[i].Page.Part !=a) (some true)<|cond (decide<|a>0) (some<|r[i].Page.Count !=c)<|some false):Option Bool)=some (!pM t a c r[i]):=by
     unfold pM
     grind
    rw[e,Aa,ad1]
    cases hM:pM t a c r[i]with
    |false=>
     refine .inl ⟨_,rfl,.inl ⟨rfl,λj x hj d=>?_⟩⟩
     grind
    |true=>
     have h:=hr.text _ hm;simp only[Ag,Ac];rw[FR _ _<|by omega];simp only[Aa];have hf:Sv r t a c=some r[i]:=kD r _ (λj x hj d=>hs j x hj d) hx hM;have f:(cond (a==0) (some true) (some<|decide<|r[i].Page.Seq<seq):Option Bool)=some (decide<|a=0\/r[i].Page.Seq<seq):=by grind
     rw[f];simp only[Aa];refine .inl ⟨(r[i].Page.Count,text++r[i].Page.Text,true,Qq a seq r[i]),?_,.inr ⟨r[i],_,hf,DL _ _,rfl⟩⟩;unfold Qq
     grind
   simp only[Ag,Ac]
   grind)
  (λs hs=>by
   refine⟨s,by simp only[JE,IX,EP,HI,Ac,Aa],?_⟩
   rcases hs with⟨rfl,hs⟩|hs
   ·exact .inl ⟨rfl,uK r _ λj x hx=>hs j x (Af.1 hx).1 hx⟩
   exact .inr hs) (s:=(c,text,false,seq)) (.inl ⟨rfl,λj x hj=>by omega⟩)
 have h1':Ao (λs:Int×ByteArray×Bool×Int×Int=>JE r t a s.1 s.2.1 s.2.2.1 s.2.2.2.1 s.2.2.2.2) (c,text,false,0,seq)=some b:=h1;rw[h1']
 rcases h2 with⟨rfl,h2⟩|⟨y,u,f1,f2,rfl⟩
 ·rw[h2];simp
 rw[f1]
 grind
def parts (r:List Aq) (t:Int):Nat->Int->Int->List UInt8->Int->Option (List UInt8×Int)
 |0,_,_,_,_=>none
 |n+1,a,c,b,seq=>if a=0\/a<c then(match Sv r t a c with
  |none=>none
  |some y=>parts r t n (a+1) y.Page.Count (b++L y.Page.Text) (Qq a seq y))else some (b,seq)
theorem uC {t a b:Int} (h:pM t a b y=true) (hp:0<a):y.Page.Count=b:=by
 unfold pM at h
 grind
theorem Su {t a b:Int} (h:Sv r t a b=some y):y∈r/\pM t a b y=true:=⟨List.mem_of_find?_eq_some h,List.find?_some h⟩
theorem nH (r:List Aq) (hr:G9 r) (t:Int):∀(n:Nat) (a cnt:Int) (text:ByteArray) (seq:Int),a+n=11->0<=a->(a=0\/(a<=cnt/\cnt<=9))->(L text).length<=90*a.toNat->
  ∃b,Ao (λs:Int×ByteArray×Int×Int=>PZ r t s.1 s.2.1 s.2.2.1 s.2.2.2) (cnt,text,a,seq)=some b/\(match parts r t n a cnt (L text) seq with
   |none=>∃q,b= .inr (Tx.mk t q [],false)
   |some (x,q)=>∃u,b= .inl (u,q)/\L u=x/\(L u).length<=1000)
 |0,a,cnt,text,seq,hn,h0,hc,ht=>by omega
 |n+1,a,cnt,text,seq,hn,h0,hc,ht=>by
  rw[Aw];simp only[PZ,parts];have c:(cond (a==0) (some true) (some (decide (a<cnt))):Option Bool)=some (decide (a=0\/a<cnt)):=by grind
  rw[c];simp only[Aa];by_cases e:a=0\/a<cnt
  ·rw[Ad e,AB e];simp only[Ae];obtain⟨text2,h1,h2⟩:=AAa r hr t a cnt h0 text (by omega) seq;rw[h1]
   cases hf:Sv r t a cnt with
   |none=>simp
   |some y=>
    simp only[Aa,Ag,Ac];have hy:=Su hf;have hL:=h2 y hf;have d:=hr.text y hy.1;have f:=hr.cnt y hy.1;rw[Cs,<-hL];refine nH r hr t n (a+1) y.Page.Count text2 _ (by omega) (by omega) (.inr ?_) ?_
    ·rcases e with e|e
     ·omega
     by_cases e2:a=0
     ·omega
     have:=uC hy.2 (by omega);omega
    grind
  rw[Ah e,AA e]
  grind
noncomputable def ID (r:List Aq) (t:Int):Option Tx:=match parts r t 11 0 0 [] 0 with
 |none=>none
 |some (x,q)=>(eQ (bs x)).map λl=>Tx.mk t q l
theorem AD8 (u:ByteArray):bs (L u)=u:=KU<|by rw[EO]
theorem eD (r:List Aq) (hr:G9 r) (t:Int):∃x ok,Yc r t=some (x,ok)/\ID r t=(if ok=true then some x else none)/\x.Recs.length<=20000:=by
 obtain⟨b,h1,h2⟩:=nH r hr t 11 0 0 (bs []) 0 (by omega) (by omega) (.inl rfl) (by rw[EO];simp);rw[EO]at h2;unfold Yc ID;rw[h1];simp only[Aa]
 cases hp:parts r t 11 0 0 [] 0 with
 |none=>grind
 |some w=>
  obtain⟨x,q⟩:=w;rw[hp]at h2;obtain⟨u,rfl,rfl,h4⟩:=h2;simp only[Bv];obtain⟨l,ok,r1,r2,r3⟩:=bC u (by omega);rw[r1,AD8,r2];simp only[Aa]
  grind
theorem Vr {P:List α->Prop} (nil:P []) (app:∀l x,P l->P (l++ [x])) (l:List α):P l:=by
 rw[<-List.reverse_reverse l]
 induction l.reverse with
 |nil=>exact nil
 |cons x l ih=>grind
def Dq (r:List Aq):List Int:=r.foldl (λns y=>if y.Page.Kind=2 then ins ns y.Page.Tx else ns) []
theorem V0 (r:List Aq) (y:Aq):Dq (r++ [y])=if y.Page.Kind=2 then ins (Dq r) y.Page.Tx else Dq r:=by unfold Dq;grind
theorem GO (r:List Aq) (h:∀y∈r,1<=y.Page.Tx):asc (Dq r)/\(∀x,x∈Dq r↔∃y∈r,y.Page.Kind=2/\y.Page.Tx=x)/\(Dq r).length<=r.length:=by
 have main:∀n,n<=r.length->asc (Dq<|r.take n)/\(∀x,x∈Dq (r.take n)↔∃y∈r.take n,y.Page.Kind=2/\y.Page.Tx=x)/\(Dq<|r.take n).length<=n:=by
  intro n
  induction n with
  |zero=>intro _;simp[Dq,asc]
  |succ n ih=>
   intro hn;obtain⟨h1,h2,h3⟩:=ih (by omega);have et:r.take (n+1)=r.take n++ [r[n]'(by omega)]:=An (by omega);have hy:=h _ (Az<|show n<r.length by omega);generalize r[n]'(by omega)=y at et hy;rw[et,V0]
   have a:∀z∈Dq (r.take n),0<z:=λz hz=>by grind
   by_cases e:y.Page.Kind=2
   ·rw[AB e];refine⟨uH h1,λx=>?_,by have:=ZA (Dq<|r.take n) y.Page.Tx h1;omega⟩;rw[uG a,h2 x]
    grind
   grind
 have:=main r.length<|Ax _
 grind
theorem cD (r:List Aq) (hr:G9 r):Ao (λs:List Int×Int=>JU r s.1 s.2) ([],0)=some (Dq r):=by
 have d:=hr.len;obtain⟨b,h1,h2⟩:=AJ (body:=λs:List Int×Int=>JU r s.1 s.2) (λ(o:List Int) i=>(o,i)) r.length (λi o=>o=Dq (r.take i)) (λb=>b=Dq r)
  (λo i hi ho=>by
   have hx:=Ab hi;have hm:r[i]∈r:=Az hi;have f:=(hr.tx _ hm).1;have c:=GO (r.take i) λy hy=>(hr.tx y<|List.mem_of_mem_take hy).1;have g:o.length<=1048576:=by grind
   have et:r.take (i+1)=r.take i++ [r[i]]:=An hi;simp only[JU,Eh hi,Ar,hx,Aa];rw[ad1];refine .inl ?_;by_cases e:r[i].Page.Kind=2
   ·rw[show(r[i].Page.Kind !=2)=false by simp[e]];simp only[Ac]
    rw[PF (body:=λs:List Int×Int=>Mt o r[i] s.1 s.2) o (λy=>decide<|y<r[i].Page.Tx) [] (by simp;omega)
     (λu k x hk hu=>by
      have a:=(Af.1 hk).1
      simp only[Mt,Eh a,Ar,hk,Aa])
     (λu=>by simp only[Mt,DN])]
    simp only[Aa,A5];have h:=Dr (λy=>decide<|y<r[i].Page.Tx) o
    rw[BC (by grind),Aa,PF (body:=λs:List Int×Int=>Ms o r[i] s.1 s.2) o (λy=>decide<|y>r[i].Page.Tx) _ (by grind)
     (λu k x hk hu=>by
      have a:=(Af.1 hk).1
      simp only[Ms,Eh a,Ar,hk,Aa])
     (λu=>by simp only[Ms,DN])]
    simp only[Aa];refine⟨_,rfl,?_⟩;rw[et,V0,AB e,<-ho];unfold ins
    grind
   rw[show(r[i].Page.Kind !=2)=true by simpa using e]
   exact⟨o,rfl,by rw[et,V0,AA e,ho]⟩)
  (λo ho=>⟨o,by simp only[JU,DN],by grind⟩) (s:=[]) rfl
 grind
noncomputable def Bg (r:List Aq):List Tx:=(Dq r).filterMap (ID r)
theorem S6 (hr:G9 r) (h:ID r t=some x):x.Num=t/\x.Recs.length<=20000:=by
 obtain⟨z,ok,h1,h2,h3⟩:=eD r hr t;rw[h]at h2
 cases ok with
 |false=>cases h2
 |true=>
  rw[AB rfl]at h2
  injection h2 with h2
  subst h2;refine⟨?_,h3⟩;unfold ID at h;split at h
  ·cases h
  obtain⟨l,_,rfl⟩:=AT.1 h;rfl
theorem O9 (r:List Aq) (hr:G9 r):RH r=some (Bg r):=by
 have c:=hr.len;have a:=GO r λy hy=>(hr.tx y hy).1;have d:=a.2.2;unfold RH;rw[cD r hr];simp only[Aa];obtain⟨b,h1,h2⟩:=AJ (body:=λs:List Tx×Int=>Mr r (Dq r) s.1 s.2) (λ(o:List Tx) i=>(o,i)) (Dq r).length (λi o=>o=((Dq r).take i).filterMap (ID r)) (λb=>b=Bg r)
  (λo i hi ho=>by
   have hx:=Ab hi;have et:(Dq r).take (i+1)=(Dq r).take i++ [(Dq r)[i]]:=An hi;have e:o.length<=i:=by grind
   simp only[Mr,Eh hi,Ar,hx,Aa];rw[ad1];obtain⟨z,ok,k1,k2,k3⟩:=eD r hr (Dq r)[i];rw[k1];simp only[Aa];refine .inl ?_
   cases ok with
   |true=>
    simp only[Ae];rw[BC<|by grind]
    grind
   |false=>grind)
  (λo ho=>⟨o,by simp only[Mr,DN],by rw[ho,DK];rfl⟩) (s:=[]) rfl
 rw[h1,h2];rfl
def cN (x:Tx):Bool:=match x.Recs with
 |[]=>false
 |r::_=>r.Kind==1
def rW (l:List Tx):Nat:=l.zipIdx.foldl (λa z=>if cN z.1=true then z.2 else a) 0
def CO (l:List Tx):List Tx:=l.drop<|rW l
theorem Rc (l:List Tx) (x:Tx):rW (l++ [x])=if cN x=true then l.length else rW l:=by
 unfold rW
 grind
theorem rV (l:List Tx):rW l<=l.length:=by
 induction l using Vr with
 |nil=>simp[rW]
 |app l x ih=>
  rw[Rc,Ak]
  grind
theorem SA (l:List Tx) (x:Tx):CO (l++ [x])=if cN x=true then [x]else CO l++ [x]:=by
 unfold CO;rw[Rc];by_cases e:cN x=true
 ·grind
 rw[AA e,AA e,List.drop_append_of_le_length<|rV l]
theorem lL (l:List Tx):∃A,l=A++CO l/\(A≠ []->∃x B,CO l=x::B/\cN x=true)/\∀x B,CO l=x::B->∀y∈B,cN y=false:=by
 induction l using Vr with
 |nil=>exact⟨[],rfl,λh=>absurd rfl h,λx B h=>by cases h⟩
 |app l x ih=>
  obtain⟨A,h1,h2,h3⟩:=ih;rw[SA];by_cases e:cN x=true
  ·rw[AB e];exact⟨l,rfl,λ_=>⟨x,[],rfl,e⟩,λy B h=>by grind⟩
  rw[AA e];refine⟨A,by grind,λhA=>?_,λy B h=>?_⟩
  ·grind
  cases hs:CO l with
  |nil=>grind
  |cons w B'=>grind
theorem yF (A:List Tx):∀(B:List Tx),(A≠ []->∃x B',B=x::B'/\cN x=true)->(∀x B',B=x::B'->∀y∈B',cN y=false)->CO (A++B)=B:=by
 intro B
 induction B using Vr with
 |nil=>
  intro h1 _
  cases A with
  |nil=>rfl
  |cons a A=>grind
 |app B y ih=>
  intro h1 h2;rw[<-AE,SA]
  cases B with
  |nil=>
   by_cases e:cN y=true
   ·rw[AB e];rfl
   rw[AA e]
   cases A with
   |nil=>rfl
   |cons a A=>grind
  |cons b B=>
   have hy:cN y=false:=h2 b (B++ [y]) rfl y (by simp);rw[AA (by rw[hy];simp),ih]
   ·grind
   intro x B' h z hz
   injection h with h4 h5
   subst h4 h5;exact h2 b (B++ [y]) rfl z<|by simp[hz]
theorem RG (l:List Tx) (hl:l.length<=1048576) (hr:∀x∈l,x.Recs.length<=20000):O5 l=some (CO l):=by
 unfold O5;obtain⟨b,h1,h2⟩:=AJ (body:=λs:Int×Int=>Ie l s.1 s.2) (λ(o:Int) i=>(o,i)) l.length (λi o=>o=(rW (l.take i):Int)) (λb=>b=(rW l:Int))
  (λo i hi ho=>by
   have hx:=Ab hi;have et:l.take (i+1)=l.take i++ [l[i]]:=An hi;simp only[Ie,Eh hi,Ar,hx,Aa];rw[ad1];refine .inl ?_;have d:(l.take i).length=i:=by grind
   cases a:l[i].Recs with
   |nil=>
    refine⟨o,rfl,?_⟩;rw[et,Rc,AA (by unfold cN;rw[a];simp),ho]
   |cons q m=>
    have hg:gi (q::m) 0=some q:=Ar (i:=0);rw[Ad (by rw[Bq,A8];omega:ln (q::m)>0)];simp only[Ae,hg,Aa]
    cases hk:(q.Kind==1)with
    |true=>
     refine⟨(i:Int),rfl,?_⟩;rw[et,Rc,AB (by unfold cN;rw[a];exact hk),d]
    |false=>
     refine⟨o,rfl,?_⟩
     rw[et,Rc,AA (by unfold cN;grind),ho])
  (λo ho=>⟨o,by simp only[Ie,DN],by grind⟩) (s:=0) rfl
 rw[h1,h2];simp only[Aa];have e:=rV l;obtain⟨c,q1,q2⟩:=V5 (body:=λs:List Tx×Int=>Ic l s.1 s.2) (λ(o:List Tx) i=>(o,i)) l.length (λi o=>o=(l.take i).drop (rW l)/\rW l<=i) (λb=>b=CO l)
  (λo i hi hs=>by
   obtain⟨ho,f⟩:=hs;have hx:=Ab hi;have hm:l[i]∈l:=Az hi;have g:=hr _ hm;have et:l.take (i+1)=l.take i++ [l[i]]:=An hi;have h:o.length<=1048576:=by grind
   simp only[Ic,Eh hi,Ar,hx,Aa];rw[LK (by omega),Aa,BC (by grind),Aa,ad1];refine .inl ⟨_,rfl,?_,by omega⟩
   rw[et,List.drop_append_of_le_length (by grind),<-ho])
  (λo hs=>⟨o,by simp only[Ic,DN],by rw[hs.1,DK];rfl⟩) (l.length-rW l) (rW l) [] (by omega) ⟨by grind,Ax _⟩
 rw[q1,q2];rfl
def CT (l:Vs) (nx:Int) (a:List Ct):Option (Vs×Int):=a.foldl (λo r=>o.bind λp=>CZ p.1 p.2 r)<|some (l,nx)
theorem Sy (a:List Ct):a.foldl (λ(o:Option (Vs×Int)) r=>o.bind λp=>CZ p.1 p.2 r) none=none:=by
 induction a with
 |nil=>rfl
 |cons r l ih=>grind
theorem GS (l:Vs) (nx:Int) (r:Ct) (a:List Ct):CT l nx (r::a)=(CZ l nx r).bind λp=>CT p.1 p.2 a:=by
 unfold CT;rw[Ru];simp only[Aa]
 cases CZ l nx r with
 |none=>exact Sy a
 |some p=>rfl
theorem Ma (l:Vs) (nx:Int) (a b:List Ct):CT l nx (a++b)=(CT l nx a).bind λp=>CT p.1 p.2 b:=by
 unfold CT;rw[List.foldl_append]
 cases a.foldl (λ(o:Option (Vs×Int)) r=>o.bind λp=>CZ p.1 p.2 r) (some (l,nx))with
 |none=>exact Sy b
 |some p=>rfl
def Qw (s:Store) (a:List Ct) (o:Option (Store×Bool)):Prop:=match CT (AR s) s.Next a with
 |none=>o=some (s,false)
 |some (l,nx)=>∃t,o=some (t,true)/\C1 t/\AR t=l/\t.Next=nx
theorem Xz (h:C1 s) (a:List Ct) (hr:a.length<=1048576):Qw s a (Lv s a):=by
 have hl:=h.len;have e:=KQ h.ar (by have:=h.few;omega);have c:=Gp s e (by omega);unfold Lv;rw[c];simp only[Aa];obtain⟨b,h1,h2⟩:=AJ (body:=λq:Int×List Vol×List By×Int=>E9 s a q.1 q.2.1 q.2.2.1 q.2.2.2) (λ(t:Store) i=>(i,t.Vols,t.Arena.Knots,t.Next)) a.length
  (λi t=>C1 t/\CT (AR s) s.Next (a.take i)=some (AR t,t.Next))
  (λb=>(b= .inr (s,false)/\CT (AR s) s.Next a=none)\/∃t,b= .inl (t.Vols,t.Arena.Knots,t.Next)/\C1 t/\CT (AR s) s.Next a=some (AR t,t.Next))
  (λt i hi hs=>by
   obtain⟨hP,he⟩:=hs;have hx:=Ab hi;obtain⟨e1,e2⟩:=JG hx;have et:a.take (i+1)=a.take i++ [a[i]]:=An hi;simp only[E9,Eh hi,Ar,hx,Aa];have d:=aE hP a[i];unfold LU at d;have f:Store.mk t.Vols (Arena.mk t.Arena.Knots) t.Next=t:=rfl;rw[f]
   cases hv:CZ (AR t) t.Next a[i]with
   |none=>
    rw[hv]at d;rw[d];simp only[Aa,AM,Ae];rw[c];refine .inr ⟨_,rfl,.inl ⟨rfl,?_⟩⟩;rw[e1,Ma,he,Aa,GS,hv];rfl
   |some p=>
    obtain⟨l,nx⟩:=p;rw[hv]at d;obtain⟨u,u1,u2,u3,u4⟩:=d;rw[u1];simp only[Aa,Ag,Ac];rw[ad1];refine .inl ⟨u,rfl,u2,?_⟩;rw[et,Ma,he,Aa,GS,hv,Aa,u3,u4]
    rfl)
  (λt hs=>⟨_,by simp only[E9,DN],.inr ⟨t,rfl,hs.1,by grind⟩⟩) (s:=s) ⟨h,rfl⟩
 rw[h1];unfold Qw
 rcases h2 with⟨rfl,h2⟩|⟨t,rfl,h2,h3⟩
 ·rw[h2];rfl
 rw[h3];exact⟨t,rfl,h2,rfl,rfl⟩
def CP (r:List Aq):Int:=r.foldl (λm y=>if y.Page.Seq>=m then y.Page.Seq+1 else m) 1
def DH (r:List Aq):Int:=r.foldl (λm y=>if y.Page.Kind=2/\y.Page.Tx>=m then y.Page.Tx+1 else m) 1
def LJ (l:List Tx):Int:=match l with
 |[]=>0
 |x::_=>x.Num
def L5 (l:List Tx):Vs×Int:=l.foldl (λp x=>(CT p.1 p.2 x.Recs).getD p) ([],1)
theorem Yb (r:List Aq) (y:Aq):CP (r++ [y])=if y.Page.Seq>=CP r then y.Page.Seq+1 else CP r:=by unfold CP;grind
theorem UO (r:List Aq) (y:Aq):DH (r++ [y])=if y.Page.Kind=2/\y.Page.Tx>=DH r then y.Page.Tx+1 else DH r:=by unfold DH;grind
theorem NJ (r:List Aq):(∀y∈r,y.Page.Seq<CP r)/\1<=CP r/\(∀b,1<=b->(∀y∈r,y.Page.Seq<b)->CP r<=b):=by
 induction r using Vr with
 |nil=>exact⟨λy hy=>(by cases hy),by simp[CP],λb hb _=>by simpa[CP]using hb⟩
 |app r x ih=>
  obtain⟨h1,h2,h3⟩:=ih;rw[Yb]
  grind
theorem YC (r:List Aq):(∀y∈r,y.Page.Kind=2->y.Page.Tx<DH r)/\1<=DH r/\(∀b,1<=b->(∀y∈r,y.Page.Kind=2->y.Page.Tx<b)->DH r<=b):=by
 induction r using Vr with
 |nil=>exact⟨λy hy=>(by cases hy),by simp[DH],λb hb _=>by simpa[DH]using hb⟩
 |app r x ih=>
  obtain⟨h1,h2,h3⟩:=ih;rw[UO]
  grind
theorem Wx (h:dH f r) (hf:B9 f):G9 r:=by
 have a:∀y∈r,(1<=y.Page.Seq/\y.Page.Seq<=1000000000)/\(1<=y.Page.Tx/\y.Page.Tx<=1000000000)/\(1<=y.Page.Count/\y.Page.Count<=9)/\(0<=y.Page.Part/\y.Page.Part<y.Page.Count):=by
  intro y hy;obtain⟨b,x,g1,g2,_,g3⟩:=h.page y hy;obtain⟨_,k1⟩:=CM g1;obtain⟨_,k2⟩:=CM g2;have hx:=hf.text b (Au k1) x<|Au k2;obtain⟨p,ok,m1,_,_,m2⟩:=I9 x.Text (by omega);rw[g3]at m1
  injection m1 with m1
  injection m1 with m1 m3
  have hp:=m2 m3.symm;obtain⟨v,q1,_,q2⟩:=Tm p
  grind
 exact⟨h.len,h.text,λy hy=>(a y hy).1,λy hy=>(a y hy).2.1,λy hy=>(a y hy).2.2.1,λy hy=>(a y hy).2.2.2⟩
theorem Vn (r:List Aq) (hr:G9 r):Ao (λs:Int×Int×Int=>H8 r s.1 s.2.1 s.2.2) (0,1,1)=some (CP r,DH r):=by
 have c:=hr.len;obtain⟨b,h1,h2⟩:=AJ (body:=λs:Int×Int×Int=>H8 r s.1 s.2.1 s.2.2) (λ(o:Int×Int) i=>(i,o.1,o.2)) r.length (λi o=>o=(CP<|r.take i,DH<|r.take i)) (λb=>b=(CP r,DH r))
  (λo i hi ho=>by
   subst ho;have hx:=Ab hi;have hm:r[i]∈r:=Az hi;have hs:=hr.seq _ hm;have ht:=hr.tx _ hm;have et:r.take (i+1)=r.take i++ [r[i]]:=An hi;simp only[H8,Eh hi,Ar,hx,Aa];rw[et,Yb,UO,ad1];have a:(cond (decide<|r[i].Page.Seq>=CP (r.take i)) (some<|ad r[i].Page.Seq 1) (some<|CP<|r.take i):Option Int)=some (if r[i].Page.Seq>=CP (r.take i)then r[i].Page.Seq+1 else CP<|r.take i):=by
    by_cases e:r[i].Page.Seq>=CP (r.take i)
    ·rw[Ad e,AB e,Cs];rfl
    grind
   rw[a];simp only[Aa];refine .inl ?_;by_cases e:r[i].Page.Kind=2
   ·rw[show(r[i].Page.Kind==2)=true by simpa using e];simp only[Ae,Aa];by_cases e2:r[i].Page.Tx>=DH (r.take i)
    ·rw[Ad e2,AB<|show r[i].Page.Kind=2/\r[i].Page.Tx>=DH (r.take i)from⟨e,e2⟩,Cs]
     grind
    grind
   grind)
  (λo ho=>⟨o,by simp only[H8,DN],by grind⟩) (s:=(1,1)) rfl
 grind
theorem dY:C1 (Store.mk [] (Arena.mk []) 1):=by
 refine⟨⟨by simp,rfl,by simp,by simp,by simp,by simp[Bs],by simp[Bs],by simp⟩,by simp⟩
theorem Z0 (l:List Tx) (x:Tx):L5 (l++ [x])=(CT (L5 l).1 (L5 l).2 x.Recs).getD (L5 l):=by unfold L5;grind
theorem Zb (l:List Tx) (hl:l.length<=1048576) (hr:∀x∈l,x.Recs.length<=20000):∃t,Ao (λs:Int×List Vol×List By×Int×Int=>D7 l s.1 s.2.1 s.2.2.1 s.2.2.2.1 s.2.2.2.2) (0,[],[],1,0)=some (t.Vols,t.Arena.Knots,t.Next,LJ l)/\C1 t/\(AR t,t.Next)=L5 l:=by
 obtain⟨b,h1,t,h2,h3,h4⟩:=AJ (body:=λs:Int×List Vol×List By×Int×Int=>D7 l s.1 s.2.1 s.2.2.1 s.2.2.2.1 s.2.2.2.2) (λ(o:Store×Int) i=>(i,o.1.Vols,o.1.Arena.Knots,o.1.Next,o.2)) l.length
  (λi o=>C1 o.1/\(AR o.1,o.1.Next)=L5 (l.take i)/\o.2=LJ (l.take i)) (λb=>∃t,b=(t.Vols,t.Arena.Knots,t.Next,LJ l)/\C1 t/\(AR t,t.Next)=L5 l)
  (λo i hi hs=>by
   obtain⟨t,bs0⟩:=o;obtain⟨hP,hv,hb⟩:=hs;simp only at hP hv hb;have hx:=Ab hi;have hm:l[i]∈l:=Az hi;have j:=hr _ hm;have et:l.take (i+1)=l.take i++ [l[i]]:=An hi;simp only[D7,Eh hi,Ar,hx,Aa];have f:(cond ((i:Int)==0) (some l[i].Num) (some bs0):Option Int)=some (LJ<|l.take<|i+1):=by
    by_cases e:i=0
    ·subst e;rw[et];simp[LJ]
    rw[show((i:Int)==0)=false by simp;omega,hb,et];simp only[Ac]
    cases h5:l.take i with
    |nil=>
     have:=BQ List.length h5
     grind
    |cons a m=>rfl
   rw[f];simp only[Aa];have c:=Xz hP l[i].Recs (by omega);unfold Qw at c;have g:Store.mk t.Vols (Arena.mk t.Arena.Knots) t.Next=t:=rfl;have e1:AR t=(L5<|l.take i).1:=BQ Prod.fst hv;have e2:t.Next=(L5<|l.take i).2:=BQ Prod.snd hv;rw[g,ad1];refine .inl ?_;have h:=Z0 (l.take i) l[i];rw[<-et]at h
   cases d:CT (AR t) t.Next l[i].Recs with
   |none=>
    rw[d]at c;rw[c];refine⟨(t,LJ<|l.take<|i+1),rfl,hP,?_,rfl⟩
    grind
   |some p=>
    obtain⟨lv,nx⟩:=p;rw[d]at c;obtain⟨u,u1,u2,u3,u4⟩:=c;rw[u1];refine⟨(u,LJ<|l.take<|i+1),rfl,u2,?_,rfl⟩
    grind)
  (λo hs=>⟨(o.1.Vols,o.1.Arena.Knots,o.1.Next,o.2),by simp only[D7,DN],o.1,by grind,hs.1,by grind⟩) (s:=(Store.mk [] (Arena.mk []) 1,0)) ⟨dY,rfl,rfl⟩
 grind
structure H5 (d:Ay) (r:List Aq):Prop where
 fl:B9 d.Flash
 scan:dH d.Flash r
 sr:SR (K2 0 d.Flash.Blocks) r
 st:C1 d.Store
 ab:(AR d.Store,d.Store.Next)=L5 (CO (Bg r))
 seq:d.Seq=CP r
 tx:d.Tx=DH r
 base:d.Base=LJ (CO (Bg r))
theorem H5.pages (h:H5 d r):G9 r:=Wx h.scan h.fl
theorem QP (hr:G9 r):(Bg r).length<=1048576/\∀x∈Bg r,x.Recs.length<=20000:=by
 have b:=hr.len;have a:=GO r λy hy=>(hr.tx y hy).1;have:=List.length_filterMap_le (ID r)<|Dq r;refine⟨by unfold Bg;omega,λx hx=>?_⟩;obtain⟨t,_,ht⟩:=List.mem_filterMap.1 hx;exact(S6 hr ht).2
theorem S9 (l:List Tx):(CO l).length<=l.length/\∀x∈CO l,x∈l:=⟨by unfold CO;grind,λx hx=>List.mem_of_mem_drop hx⟩
theorem Vo (hf:B9 f):∃d r,C6 f=some (d,true)/\H5 d r/\d.Flash=f:=by
 obtain⟨r,hs,a⟩:=AAN hf;have hr:=Wx hs hf;obtain⟨g1,g2⟩:=QP hr;obtain⟨b1,b2⟩:=S9<|Bg r;obtain⟨t,t1,t2,t3⟩:=Zb (CO<|Bg r) (by omega) λx hx=>g2 x<|b2 x hx;refine⟨Ay.mk f t (CP r) (DH r)<|LJ<|CO<|Bg r,r,?_,⟨hf,hs,a,t2,t3,rfl,rfl,rfl⟩,rfl⟩;unfold C6;rw[PP hf,hs.s,Dc f hf.cap];unfold NP;simp only[Aa,Ag,Ac];rw[Vn r hr,O9 r hr];simp only[Aa];rw[RG _ g1 g2];simp only[Aa];rw[t1];rfl
theorem lS (a b:List Int) (ha:a.length<=1048576):LT a b=some (decide (a=b)):=by
 unfold LT;by_cases hl:a.length=b.length
 ·rw[show(ln a !=ln b)=false by simp[ln,hl]];simp only[Ac]
  rw[uL (body:=λs:Int=>GI a b s) a b (λx y=>x==y) hl (by omega)
   (λi x y hx hy=>by
    have hi:=(Af.1 hx).1;simp only[GI,Eh hi,Ar,hx,hy,Aa];rw[ad1]
    grind)
   (by simp only[GI,DN])]
  have:=sQ (p:=λx y:Int=>x==y) (a:=a) (b:=b) (λx _ y _=>by simp) hl
  grind
 rw[show(ln a !=ln b)=true by simp[ln];omega,Ah λhh=>hl<|by rw[hh]];rfl
theorem o5 {a b:Store} (ha:C1 a) (hb:C1 b):O7 a b=some (decide (AR a=AR b/\a.Next=b.Next)):=by
 have c:=ha.len;have d:=hb.len;have e:=ha.few;have f:=hb.few;unfold O7;by_cases hl:a.Vols.length=b.Vols.length
 ·rw[show(ln a.Vols !=ln b.Vols)=false by simp[ln,hl]];simp only[Ac,Aa];by_cases hn:a.Next=b.Next
  ·rw[show(a.Next !=b.Next)=false by simp[hn]];simp only[Ac]
   rw[uL (body:=λs:Int=>Ig a b s) a.Vols b.Vols (λv w=>v.Id==w.Id&&decide (Ff a.Arena.Knots v.Root=Ff b.Arena.Knots w.Root)) hl (by omega)
    (λi x y hx hy=>by
     have hi:=(Af.1 hx).1;simp only[Ig,Eh hi,Ar,hx,hy,Aa];rw[NQ _ (by omega) ha.ar<|ha.root _<|A9.2 ⟨x,Au hx,rfl⟩,NQ _ (by omega) hb.ar<|hb.root _<|A9.2 ⟨y,Au hy,rfl⟩];simp only[Aa];rw[lS _ _ (by unfold Ff;simp)];simp only[Aa];rw[ad1]
     grind)
    (by simp only[Ig,DN])]
   have g:(a.Vols.zip b.Vols).all (λz=>z.1.Id==z.2.Id&&decide (Ff a.Arena.Knots z.1.Root=Ff b.Arena.Knots z.2.Root))=decide (AR a=AR b):=by
    unfold AR;generalize a.Vols=l at hl;generalize b.Vols=m at hl
    induction l generalizing m with
    |nil=>cases m with
     |nil=>simp
     |cons y m=>simp at hl
    |cons x l ih=>
     cases m with
     |nil=>simp at hl
     |cons y m=>
      rw[List.zip_cons_cons,FI,ih m (by simpa using hl),El];simp
   grind
  grind
 rw[show(ln a.Vols !=ln b.Vols)=true by simp[ln];omega,Ah (λhh=>hl (by have:=BQ List.length hh.1;rwa [I7,I7]at this))];rfl
theorem Mg (h:H5 d r):Pu d=some d:=by
 have:=h.st.len;unfold Pu;rw[Dc _ h.fl.cap,Gp _ (KQ h.st.ar (by have:=h.st.few;omega))<|by omega];rfl
theorem H5.uniq (h:H5 d r) (h':H5 d' r') (e:d.Flash=d'.Flash):r=r':=by
 have h1:=h.sr;have h2:=h'.sr;rw[<-e]at h2;exact h1.uniq h2
theorem Qf (h:H5 d r):Qg d=some true:=by
 obtain⟨m,r',h1,h2,h3⟩:=Vo h.fl;obtain rfl:=h.uniq h2 h3.symm;unfold Qg;rw[h1];simp only[Aa,Ae];have e:=h2.ab.trans h.ab.symm
 injection e with e1 e2
 rw[o5 h2.st h.st,Ad ⟨e1,e2⟩];simp only[Aa,Ae];rw[h2.seq,h.seq,h2.tx,h.tx,h2.base,h.base];simp only[BEq.rfl,Ae];rw[RF h.st];rfl
theorem ZZ {l:List α} {f g:α->Option β} (h:∀x∈l,f x=g x):l.filterMap f=l.filterMap g:=by
 induction l with
 |nil=>rfl
 |cons a l ih=>grind
theorem rJ {l:List α} {p q:α->Bool} (h:∀x∈l,p x=q x):l.find? p=l.find? q:=by
 induction l with
 |nil=>rfl
 |cons a l ih=>grind
theorem Xo (h:∀a b,Sv r' t a b=Sv r t a b):∀(n:Nat) (a b:Int) (x:List UInt8) (q:Int),parts r' t n a b x q=parts r t n a b x q
 |0,_,_,_,_=>rfl
 |n+1,a,b,x,q=>by
  simp only[parts,h];split
  ·split
   ·rfl
   exact Xo h n _ _ _ _
  rfl
theorem TM (h:∀a b,Sv r' t a b=Sv r t a b):ID r' t=ID r t:=by
 unfold ID;rw[Xo h]
theorem W7 {t a b:Int} (h:pM t a b y=true):y.Page.Kind=2/\y.Page.Tx=t/\y.Page.Part=a:=by
 unfold pM at h
 grind
theorem kA (r m:List Aq) (t a b:Int):Sv (r++m) t a b=(Sv r t a b).or (Sv m t a b):=by unfold Sv;grind
theorem VH {t a b:Int} (h:∀y∈r,y.Page.Kind=2->y.Page.Tx≠t):Sv r t a b=none:=by
 unfold Sv;rw[Tw];intro y hy hm;obtain⟨h1,h2,_⟩:=W7 hm;exact h y hy h1 h2
theorem uT (h:∀y∈r,y.Page.Kind=2->y.Page.Tx≠t):ID r t=none:=by
 unfold ID;have:parts r t 11 0 0 [] 0=none:=by
  simp only[parts];rw[AB<|.inl trivial,VH h]
 rw[this]
theorem vN (r:List Aq) (hy:y.Page.Kind≠2):Dq (r++ [y])=Dq r:=by rw[V0,AA hy]
theorem Xv (r:List Aq) (hy:y.Page.Kind≠2):Bg (r++ [y])=Bg r:=by
 unfold Bg;rw[vN r hy];congr 1;funext t
 refine TM λa b=>?_
 rw[kA,VH (r:=[y]) (λz hz hk=>by grind),Option.or_none]
structure gF (m:List Aq) (t:Int) (n:Nat) (texts:List ByteArray):Prop where
 len:m.length<=n
 pos:1<=n/\n<=9
 tl:texts.length=n
 at_:∀(i:Nat) y,m[i]?=some y->y.Page.Kind=2/\y.Page.Tx=t/\y.Page.Part=i/\y.Page.Count=n/\texts[i]?=some y.Page.Text
theorem gF.all (h:gF m t n texts) (hy:y∈m):y.Page.Kind=2/\y.Page.Tx=t:=by
 obtain⟨i,hi,rfl⟩:=A6 hy;obtain⟨h1,h2,_⟩:=h.at_ i _<|Ab hi;exact⟨h1,h2⟩
theorem zO (r:List Aq) (hr:∀y∈r,1<=y.Page.Tx) (ht:∀y∈r,y.Page.Kind=2->y.Page.Tx<t) (h0:1<=t):∀(m:List Aq),m≠ []->(∀y∈m,y.Page.Kind=2/\y.Page.Tx=t)->Dq (r++m)=Dq r++ [t]:=by
 intro m hm a;have h1:=GO (r++m) (λy hy=>by grind);have h2:=GO r hr
 refine VR h1.1 ?_ λx=>?_
 ·unfold asc;rw[AN];refine⟨h2.1,IV _ _,λx hx z hz=>?_⟩
  grind
 rw[h1.2.1,Ap,Br,h2.2.1];constructor
 ·grind
 rintro(⟨y,hy,hk,rfl⟩|rfl)
 ·grind
 cases m with
 |nil=>exact absurd rfl hm
 |cons y m=>exact⟨y,by simp,(a y<|by simp).1,(a y<|by simp).2⟩
theorem ABS (h:gF m t n texts) {a:Nat} {b:Int} (hc:a=0\/b=n):Sv m t a b=m[a]? :=by
 cases hy:m[a]? with
 |none=>
  unfold Sv;rw[Tw];intro y c hm;obtain⟨i,hi,rfl⟩:=A6 c;obtain⟨_,_,h3,_⟩:=h.at_ i _<|Ab hi;have:=(W7 hm).2.2
  grind
 |some y=>
  obtain⟨h1,h2,h3,h4,_⟩:=h.at_ a y hy;refine kD m _ (λj x hj hx=>?_) hy ?_
  ·obtain⟨_,_,k3,_⟩:=h.at_ j x hx;rw[Bool.eq_false_iff];intro hm;have:=(W7 hm).2.2;omega
  unfold pM
  grind
def PJ (l:List ByteArray):List UInt8:=l.flatMap L
theorem eX (hr:∀y∈r,y.Page.Kind=2->y.Page.Tx≠t) (h:gF m t n texts):∀(k a:Nat) (c:Int) (x:List UInt8) (q:Int) (b:Nat),a+k=n->(a=0\/c=n)->k<b->
  (m.length=n->∃q',parts (r++m) t b a c x q=some (x++PJ (texts.drop a),q'))/\(m.length<n->a<=m.length->parts (r++m) t b a c x q=none)
 |k,a,c,x,q,0,hk,hc,hf=>by omega
 |0,a,c,x,q,b+1,hk,hc,hf=>by
  have hp:=h.pos;simp only[parts];rw[AA<|by omega];refine⟨λ_=>⟨q,?_⟩,λh1 h2=>by omega⟩;rw[ER (by have:=h.tl;omega)];simp[PJ]
 |k+1,a,c,x,q,b+1,hk,hc,hf=>by
  have hp:=h.pos;simp only[parts];rw[AB (by omega),kA,VH hr,Option.none_or,ABS h hc]
  cases hy:m[a]? with
  |none=>grind
  |some y=>
   obtain⟨h1,h2,h3,h4,h5⟩:=h.at_ a y hy;have d:=(Af.1 hy).1;simp only[];obtain⟨k1,k2⟩:=eX hr h k (a+1) y.Page.Count (x++L y.Page.Text) (Qq a q y) b (by omega) (.inr h4) (by omega);rw[show((a+1:Nat):Int)=(a:Int)+1 from rfl]at k1 k2;refine⟨λh6=>?_,λh6 h7=>k2 h6<|by omega⟩;obtain⟨q',k3⟩:=k1 h6;refine⟨q',?_⟩
   rw[k3,show texts.drop a=y.Page.Text::texts.drop (a+1) by
    have h8:=(Af.1 h5)
    rw[AL h8.1,h8.2]]
   simp only[PJ,Kj,AE]
theorem rE (r:List Aq) (hr:∀y∈r,1<=y.Page.Tx) (ht:∀y∈r,y.Page.Kind=2->y.Page.Tx<t) (h0:1<=t) (h:gF m t n texts):
  (m.length<n->Bg (r++m)=Bg r)/\(m.length=n->∀a,eQ (bs (PJ texts))=some a->∃q,Bg (r++m)=Bg r++ [Tx.mk t q a]):=by
 have b:∀y∈r,y.Page.Kind=2->y.Page.Tx≠t:=λy hy hk=>by grind
 have old:∀x∈Dq r,ID (r++m) x=ID r x:=by
  intro x hx;have:=GO r hr;obtain⟨y,hy,hk,rfl⟩:=(this.2.1 x).1 hx;have:=ht y hy hk
  refine TM λd f=>?_
  rw[kA,VH (r:=m) (λz hz g=>by rw[(h.all hz).2];omega),Option.or_none]
 have oldG:(Dq r).filterMap (ID<|r++m)=Bg r:=by
  unfold Bg;exact ZZ old
 by_cases hm:m=[]
 ·subst hm;have:=h.pos
  grind
 have c:=zO r hr ht h0 m hm λy hy=>h.all hy;have hg:Bg (r++m)=Bg r++(match ID (r++m) t with|some x=>[x]|none=>[]):=by
  have:Bg (r++m)=(Dq<|r++m).filterMap (ID<|r++m):=rfl
  grind
 have hp:=h.pos;obtain⟨p1,p2⟩:=eX b h n 0 0 [] 0 11 (by omega) (.inl rfl) (by omega);refine⟨λh1=>?_,λh1 a e=>?_⟩
 ·have:ID (r++m) t=none:=by
   unfold ID
   grind
  grind
 obtain⟨q,p3⟩:=p1 h1;rw[show((0:Nat):Int)=0 from rfl]at p3;have:ID (r++m) t=some (Tx.mk t q a):=by
  unfold ID
  grind
 grind
structure pA (r:List Aq):Prop where
 uniq:∀y∈r,∀z∈r,y.Page.Kind=2->z.Page.Kind=2->y.Page.Tx=z.Page.Tx->y.Page.Part=z.Page.Part->y=z
theorem rI (h:pA r) (p:Aq->Bool) {t a b:Int} (hf:Sv (r.filter p) t a b=some y):Sv r t a b=some y:=by
 obtain⟨h1,h2⟩:=Su hf;have h3:=(Bc.1 h1).1
 cases hz:Sv r t a b with
 |none=>
  unfold Sv at hz
  grind
 |some z=>
  obtain⟨k1,k2⟩:=Su hz;obtain⟨a1,a2,a3⟩:=W7 h2;obtain⟨b1,b2,b3⟩:=W7 k2;rw[h.uniq z k1 y h3 b1 a1 (by rw[a2,b2])<|by rw[a3,b3]]
theorem Vy (h:pA r) (p:Aq->Bool):∀(n:Nat) (a b:Int) (x:List UInt8) (q:Int) (w:List UInt8×Int),parts (r.filter p) t n a b x q=some w->parts r t n a b x q=some w
 |0,_,_,_,_,_,hw=>by cases hw
 |n+1,a,b,x,q,w,hw=>by
  simp only[parts]at hw⊢;split
  ·rename_i hc;rw[AB hc]at hw
   cases hf:Sv (r.filter p) t a b with
   |none=>grind
   |some y=>
    rw[hf]at hw;rw[rI h p hf];exact Vy h p n _ _ _ _ w hw
  grind
theorem lG (h:pA r) (p:Aq->Bool) (hx:ID (r.filter p) t=some x):ID r t=some x:=by
 unfold ID at hx⊢
 cases hp:parts (r.filter p) t 11 0 0 [] 0 with
 |none=>grind
 |some w=>
  rw[hp]at hx;rw[Vy h p _ _ _ _ _ w hp];exact hx
theorem rF (r:List Aq) (hr:G9 r):(Bg r).Pairwise λx y=>x.Num<y.Num:=by
 have h1:=(GO r λy hy=>(hr.tx y hy).1).1;unfold Bg;rw[List.pairwise_filterMap];refine List.Pairwise.imp ?_ h1;intro a b c x hx y hy;rw[(S6 hr hx).1,(S6 hr hy).1];exact c
theorem VJ (l:List α) (f:α->Option β) (q:β->Bool):(l.filterMap f).filter q=l.filterMap (λa=>(f a).filter q):=by
 induction l with
 |nil=>rfl
 |cons a l ih=>grind
theorem gO (r:List Aq) (hr:G9 r) (h:pA r) (p:Aq->Bool) (hp:∀y∈r,y.Page.Kind=2->LJ (CO (Bg r))<=y.Page.Tx->p y=true):CO (Bg (r.filter p))=CO (Bg r):=by
 have hr':G9 (r.filter p):=⟨by have:=Dr p r;have:=hr.len;omega,λy hy=>hr.text y (Bc.1 hy).1,λy hy=>hr.seq y (Bc.1 hy).1,λy hy=>hr.tx y (Bc.1 hy).1,λy hy=>hr.cnt y (Bc.1 hy).1,λy hy=>hr.part y (Bc.1 hy).1⟩;have s1:=GO r λy hy=>(hr.tx y hy).1;have s2:=GO (r.filter p) λy hy=>(hr'.tx y hy).1;have e1:Bg (r.filter p)=(Dq r).filterMap (ID<|r.filter p):=by
  have hn:Dq (r.filter p)=(Dq r).filter (λt=>decide<|t∈Dq (r.filter p)):=by
   refine VR s2.1 (List.Pairwise.filter _ s1.1) λx=>?_
   grind
  unfold Bg
  conv=>lhs;rw[hn]
  rw[List.filterMap_filter]
  refine ZZ λt ht=>?_
  by_cases e:t∈Dq (r.filter p)
  ·grind
  rw[AA<|by simpa using e];symm
  refine uT λy hy hk c=>e<|(s2.2.1 t).2 ⟨y,hy,hk,c⟩
 have keep:∀t,LJ (CO<|Bg r)<=t->ID (r.filter p) t=ID r t:=by
  intro t ht
  refine TM λpart cnt=>?_
  unfold Sv;rw[List.find?_filter]
  refine rJ λy hy=>?_
  cases hm:pM t part cnt y with
  |false=>simp
  |true=>
   obtain⟨a1,a2,_⟩:=W7 hm
   grind
 have e2:Bg (r.filter p)=(Bg r).filter λx=>(ID (r.filter p) x.Num).isSome:=by
  rw[e1];unfold Bg;rw[VJ]
  refine ZZ λt ht=>?_
  cases hx:ID (r.filter p) t with
  |some x=>
   have h1:=lG h p hx;rw[h1];have h2:=(S6 hr h1).1
   grind
  |none=>
   cases hy:ID r t with
   |none=>rfl
   |some x=>
    have h2:=(S6 hr hy).1
    grind
 obtain⟨A,h1,h2,h3⟩:=lL<|Bg r;have a:=rF r hr;have hB:(CO<|Bg r).filter (λx=>(ID (r.filter p) x.Num).isSome)=CO (Bg r):=by
  rw[GA];intro x hx;have d:=(S9<|Bg r).2 x hx;obtain⟨t,_,ht⟩:=List.mem_filterMap.1 d;have hn:=(S6 hr ht).1;have g:LJ (CO<|Bg r)<=x.Num:=by
   rw[h1,AN]at a
   cases hb:CO (Bg r)with
   |nil=>grind
   |cons b B=>
    have f:=a.2.1;rw[hb,Cr]at f;rw[hb,DE]at hx;simp only[LJ]
    grind
  grind
 rw[e2]
 conv=>lhs;rw[h1]
 rw[AI,hB];refine yF _ _ (λi=>h2 λhA=>?_) h3
 grind
theorem WF:∀n:Nat,∃ds x,Co n=ds++ [x]/\(∀d∈ds,128<=d.toNat)/\x.toNat<128/\Fv (Co n)=n
 |n=>by
  by_cases h:n<=127
  ·rw[LE h];have:(UInt8.ofNat n).toNat=n:=by rw[GX];omega
   exact⟨[],_,rfl,by simp,by omega,by simp only[Fv];omega⟩
  obtain⟨ds,x,h1,h2,h3,h4⟩:=WF<|n/128;rw[S0 h];have e:(UInt8.ofNat<|n %128+128).toNat=n %128+128:=by rw[GX];omega
  refine⟨UInt8.ofNat (n %128+128)::ds,x,by rw[h1];rfl,?_,h3,?_⟩
  ·grind
  simp only[Fv];omega
termination_by n=>n
decreasing_by omega
theorem I6 (h:n<=1000000000):1<=(Co n).length/\(Co n).length<=5:=by
 have a:∀(k n:Nat),n<128^(k+1)->(Co n).length<=k+1:=by
  intro k
  induction k with
  |zero=>intro n hn;rw[LE<|by omega];simp
  |succ k ih=>
   intro n hn;by_cases h:n<=127
   ·grind
   rw[S0 h,A8]
   grind
 refine⟨?_,a 4 n<|by omega⟩;obtain⟨ds,x,h1,_⟩:=WF n;rw[h1];simp
theorem o6 (t:ByteArray) (ht:(L t).length<=20000) (a n:Nat) (hn:n<=1000000000) (rest:List UInt8) (h:(L t).drop a=Co n++rest):JS t (a:Int)=some ((n:Int),((a+(Co n).length:Nat):Int),true):=by
 obtain⟨ds,x,hD,q,hx,hv⟩:=WF n;obtain⟨h1,h2⟩:=I6 hn;have z:(L t).length-a=(Co n).length+rest.length:=by
  have:=BQ List.length h
  grind
 have h3:(Co n).length=ds.length+1:=by rw[hD];simp
 have f:∀k,k<=(Co n).length->((L t).drop a).take k=(Co n).take k:=λk hk=>by grind
 have r:∀(m k:Nat),k+m=ds.length->Ao (λs:Int×Int×Int=>DC t (a:Int) s.1 s.2.1 s.2.2) (((Fv ((Co n).take k):Nat):Int),((128^k:Nat):Int),((a+k:Nat):Int))=some (.inr ((n:Int),((a+(Co n).length:Nat):Int),true)):=by
  intro m
  induction m with
  |zero=>
   intro k hk;have j:k=ds.length:=by omega
   suffices d:DC t (a:Int) ((Fv ((Co n).take k):Nat):Int) ((128^k:Nat):Int) ((a+k:Nat):Int)=some (.inr<|.inr ((n:Int),((a+(Co n).length:Nat):Int),true)) by
    rw[Aw];simp only[d]
   simp only[DC];have e:a+k<(L t).length:=by omega
   rw[Cs (b:=5) (by omega) (by omega),Bz,Ad (by omega:((a+k:Nat):Int)<(a:Int)+5),Ad (by omega:((a+k:Nat):Int)<((L t).length:Int))];simp only[Ae,Aa,Fg t e];have hb:(L t)[a+k]=x:=by
    have:((L t).drop a)[k]?=some x:=by
     rw[h,hD,BZ (by simp;omega),j,B5<|Ax _,Nat.sub_self];rfl
    grind
   rw[hb];have c:=Ox ds [x];rw[<-hD,hv]at c;have u:(Co n).take k=ds:=by grind
   rw[u];simp only[Fv,Nat.mul_zero,Ot]at c;have hp:=iR k (by omega);have hw:IntKind.i64.wrap (x.toNat:Int)=x.toNat:=Pm (by omega) (by omega);have l:x.toNat %128*128^k<=127*268435456:=dI (by omega) hp;have emul:ml ((x.toNat %128:Nat):Int) ((128^k:Nat):Int)=((x.toNat %128*128^k:Nat):Int):=by
    have ec:((x.toNat %128:Nat):Int)*((128^k:Nat):Int)=((x.toNat %128*128^k:Nat):Int):=by norm_cast
    rw[P4 (by rw[ec];omega) (by rw[ec];omega),ec]
   have g:=XX ds;rw[<-j]at g c;have enew:ad ((Fv ds:Nat):Int) ((x.toNat %128*128^k:Nat):Int)=(n:Int):=by
    rw[Cs,c,Nat.mul_comm<|128^k];omega
   rw[hw,gL,emul,enew,Ad (by omega:(x.toNat:Int)<128),Ah (by omega:¬(n:Int)>1000000000),ad1];simp only[Ae,Ac];obtain⟨s,v,w⟩:=IL n (by omega);rw[FK t (by omega) (by omega),v];simp only[Aa];have h0:seq s (t.extract a<|a+k+1)=true:=by
    rw[Rm,w,IB,show a+k+1-a=k+1 by omega,f _ (by omega),AH<|by omega];simp
   grind
  |succ m ih=>
   intro k hk;suffices d:DC t (a:Int) ((Fv ((Co n).take k):Nat):Int) ((128^k:Nat):Int) ((a+k:Nat):Int)=some (.inl (((Fv ((Co n).take<|k+1):Nat):Int),((128^(k+1):Nat):Int),((a+(k+1):Nat):Int))) by
    rw[Aw]
    grind
   simp only[DC];have e:a+k<(L t).length:=by omega
   rw[Cs (b:=5) (by omega) (by omega),Bz,Ad (by omega:((a+k:Nat):Int)<(a:Int)+5),Ad (by omega:((a+k:Nat):Int)<((L t).length:Int))];simp only[Ae,Aa,Fg t e];have i:k<ds.length:=by omega
   have y:(Co n)[k]?=some ds[k]:=by rw[hD,BZ i,Ab i]
   have hb:(L t)[a+k]=ds[k]:=by
    have:((L t).drop a)[k]?=some ds[k]:=by grind
    rw[GY,Ab e]at this;injection this
   rw[hb];have h128:=q _<|Az i;have hx:=lF ds[k];have o:(Co n).take (k+1)=(Co n).take k++ [ds[k]]:=by rw[DP,y];rfl
   have p:((Co n).take k).length=k:=by rw[BK];omega
   have c:=Ox ((Co n).take k) [ds[k]];rw[<-o,p]at c;have g:=XX<|(Co n).take k;rw[p]at g;have hp:=iR k (by omega);generalize ds[k]=x at hx o c h128;simp only[Fv,Nat.mul_zero,Ot]at c;have hw:IntKind.i64.wrap (x.toNat:Int)=x.toNat:=Pm (by omega) (by omega);have l:x.toNat %128*128^k<=127*268435456:=dI (by omega) hp;have emul:ml ((x.toNat %128:Nat):Int) ((128^k:Nat):Int)=((x.toNat %128*128^k:Nat):Int):=by
    have ec:((x.toNat %128:Nat):Int)*((128^k:Nat):Int)=((x.toNat %128*128^k:Nat):Int):=by norm_cast
    rw[P4 (by rw[ec];omega) (by rw[ec];omega),ec]
   have enew:ad (((Fv ((Co n).take k):Nat)):Int) ((x.toNat %128*128^k:Nat):Int)=((Fv ((Co n).take<|k+1):Nat):Int):=by
    rw[Cs,c,Nat.mul_comm<|128^k];omega
   have e1:ml ((128^k:Nat):Int) 128=((128^(k+1):Nat):Int):=by
    rw[P4 (by omega) (by omega),sG];norm_cast
   rw[hw,gL,emul,enew,Ah (by omega:¬(x.toNat:Int)<128),e1,ad1];rfl
 unfold JS;rw[Bz,Ew,Ad<|by omega];simp only[Aa,Ag,Ac];have k0:=r ds.length 0 (by omega);simp only[KY,Fv,Nat.pow_zero,Ot]at k0
 grind
theorem L6 (t:ByteArray) (ht:(L t).length<=20000) (a n:Nat) (hn:n<=1000000000) (rest:List UInt8) (h:(L t).drop a=Co n++rest):Di (Ev.mk t (a:Int) false)=some ((n:Int),Ev.mk t ((a+(Co n).length:Nat):Int) false):=by
 rw[JX t _ ht<|o6 t ht a n hn rest h];rfl
def qI (r:Ct):List UInt8:=UInt8.ofNat (16*r.Kind+r.Vol).toNat::(Co r.Arg.toNat++Co r.Chunk.toNat)
theorem iN {r:Ct} (h:GC r=true):1<=r.Kind/\r.Kind<=5/\0<=r.Vol/\r.Vol<=9/\0<=r.Arg/\r.Arg<=1000000000/\0<=r.Chunk/\r.Chunk<=1000000000:=by
 unfold GC at h
 cases k1:(r.Kind==1)with
 |true=>grind
 |false=>
  rw[k1]at h
  grind
theorem hZ {r:Ct} (h:GC r=true):∃t,N2 r=some (t,true)/\L t=qI r:=by
 obtain⟨h1,h2,h3,h4,h5,h6,h7,h8⟩:=iN h;obtain⟨sa,a1,a2⟩:=IL r.Arg.toNat (by omega);obtain⟨sc,c1,c2⟩:=IL r.Chunk.toNat (by omega);rw[AX h5]at a1;rw[AX h7]at c1;unfold N2 JN;rw[N3,h];simp only[Aa,Ag,Ac];rw[P4 (by omega) (by omega),Cs,a1];simp only[Aa];have l1:=(I6<|show r.Arg.toNat<=1000000000 by omega).2;have l2:=(I6<|show r.Chunk.toNat<=1000000000 by omega).2;have hb:∀x,(L<|Fi [x]).length=1:=R5;rw[FR _ _ (by rw[hb,a2];omega),c1];simp only[Aa];rw[FR _ _ (by rw[DL,Ak,hb,a2,c2];omega)];simp only[Aa];refine⟨_,rfl,?_⟩;rw[DL,DL,LM,a2,c2];unfold qI;have hw:IntKind.u8.wrap (16*r.Kind+r.Vol)=16*r.Kind+r.Vol:=by
  rw[IntKind.wrap_u8];omega
 grind
def Im (l:List Ct):List UInt8:=l.flatMap qI
theorem yV {r:Ct} (h:GC r=true):3<=(qI r).length/\(qI r).length<=11:=by
 obtain⟨h1,h2,h3,h4,h5,h6,h7,h8⟩:=iN h;have l1:=I6 (show r.Arg.toNat<=1000000000 by omega);have l2:=I6 (show r.Chunk.toNat<=1000000000 by omega);unfold qI
 grind
theorem eP (t:ByteArray) (ht:(L t).length<=20000):∀(l:List Ct) (a:Nat) (b:List Ct),(∀r∈l,GC r=true)->(L t).drop a=Im l->a<=(L t).length->b.length<=a->Ao (λs:List Ct×ByteArray×Int×Bool=>E6 t s.1 s.2.1 s.2.2.1 s.2.2.2) (b,t,(a:Int),false)=some (.inl (b++l))
 |[],a,b,hl,h,ha,ho=>by
  have:(L t).length=a:=by
   have:=BQ List.length h;rw[CV]at this;simp[Im]at this;omega
  rw[Aw];simp only[E6];rw[Bz,Ah (by omega),A7];rfl
 |r::l,a,b,hl,h,ha,ho=>by
  have hr:=hl r (by simp);obtain⟨h1,h2,h3,h4,h5,h6,h7,h8⟩:=iN hr;have h':(L t).drop a=UInt8.ofNat (16*r.Kind+r.Vol).toNat::(Co r.Arg.toNat++(Co r.Chunk.toNat++Im l)):=by
   rw[h];simp only[Im,Kj,qI,B8,AE]
  have c:a<(L t).length:=by grind
  have d:=AL c;rw[h']at d
  injection d with hx hd
  rw[Aw];simp only[E6];rw[Bz,Ad<|by omega];simp only[Ae,Aa,AM];rw[Fg t c,ad1,Aa,L6 t ht (a+1) r.Arg.toNat (by omega) _ hd.symm];simp only[Aa];have e:(L t).drop (a+1+(Co r.Arg.toNat).length)=Co r.Chunk.toNat++Im l:=by
   rw[<-C4,<-hd,G0 rfl]
  rw[L6 t ht _ r.Chunk.toNat (by omega) _ e];simp only[Aa,Ac];have hw:IntKind.i64.wrap (((L t)[a]).toNat:Int)=16*r.Kind+r.Vol:=by
   rw[<-hx,GX,Pm (by omega)<|by omega];omega
  have e1:qu (IntKind.i64.wrap (((L t)[a]).toNat:Int)) 16=r.Kind:=by
   rw[hw];unfold qu;rw[Int.tdiv_eq_ediv_of_nonneg (by omega),Pm (by omega)<|by omega];omega
  have e2:Int.tmod (IntKind.i64.wrap (((L t)[a]).toNat:Int)) 16=r.Vol:=by grind
  rw[e1,e2,AX h5,AX h7];have f:Ct.mk r.Kind r.Vol r.Arg r.Chunk=r:=rfl;rw[f,N3,hr];simp only[Aa,Ag,Ac];rw[BC<|by grind];simp only[Aa];have l1:=I6 (show r.Arg.toNat<=1000000000 by omega);have l2:=I6 (show r.Chunk.toNat<=1000000000 by omega);have g:(L t).drop (a+1+(Co r.Arg.toNat).length+(Co r.Chunk.toNat).length)=Im l:=by
   rw[<-C4,e,G0 rfl]
  have i:a+1+(Co r.Arg.toNat).length+(Co r.Chunk.toNat).length<=(L t).length:=by
   have h9:=BQ List.length h'
   grind
  have:=eP t ht l _ (b++ [r]) (λx hx=>hl x<|by simp[hx]) g i (by simp;omega);rw[AE,Fo]at this;exact this
theorem qH {l:List Ct} (hl:∀r∈l,GC r=true) (a:(Im l).length<=20000):eQ (bs (Im l))=some l:=by
 have h:=eP (bs<|Im l) (by rw[EO];exact a) l 0 [] hl (by rw[EO];rfl) (by omega) (by simp);unfold eQ Ih
 grind
theorem r6 {v:Int} (u:ByteArray) (hu:(L u).length<=20000) (hv:O4 u=some v):Lr (u++four v)=some (u,true):=by
 have a:(L<|u++four v).length=(L u).length+4:=by rw[DL,Ak,VG]
 have e4:sb (FQ<|u++four v) 4=((L u).length:Int):=by rw[Bz,a,Ch];omega
 unfold Lr;rw[e4,Ah (by omega),Ah<|by omega];simp only[Ac];have c:sub (u++four v) 0 ((L u).length:Int)=some u:=by
  rw[show(0:Int)=((0:Nat):Int)from rfl,FK _ (by omega)<|by omega];congr 1;apply KU;rw[IB,DL];simp
 have b:sub (u++four v) ((L u).length:Int) (FQ<|u++four v)=some (four v):=by
  rw[Bz,FK _ (by omega)<|by omega];congr 1;apply KU;rw[IB,a,DL,G0 rfl,AH (by rw[VG];omega)]
 rw[c,b];simp only[Aa];rw[hv];have h3:Lp v=some (four v):=rfl;simp only[Aa,h3];have:seq (four v) (four v)=true:=by rw[JD];simp
 rw[this];rfl
def Jo (p:Page):Prop:=(p.Kind=1\/p.Kind=2)/\(1<=p.Seq/\p.Seq<=1000000000)/\(1<=p.Tx/\p.Tx<=1000000000)/\(1<=p.Count/\p.Count<=9)/\(0<=p.Part/\p.Part<p.Count)/\(L p.Text).length<=90/\(p.Kind=2\/p.Count=1)
theorem TU (p:Page):∃v,Kw p=some v/\(v=true↔Jo p):=by
 unfold Kw Jo;rw[Ew,Ew,Ew,Ew,Bz];simp only[Aa];by_cases h1:1<=p.Kind/\p.Kind<=2
 ·rw[Ad h1];by_cases h2:1<=p.Seq/\p.Seq<=1000000000
  ·rw[Ad h2];by_cases h3:1<=p.Tx/\p.Tx<=1000000000
   ·rw[Ad h3];by_cases h4:1<=p.Count/\p.Count<=9
    ·rw[Ad h4];simp only[Ag,Ac];rw[Ch,Ew];simp only[Aa];by_cases h5:0<=p.Part/\p.Part<=p.Count-1
     ·rw[Ad h5];simp only[Ag,Ac,Aa];by_cases h6:((L p.Text).length:Int)>90
      ·rw[Ad h6]
       grind
      rw[Ah h6];simp only[Ac];by_cases h7:p.Kind=2
      ·rw[show(p.Kind==2)=true by simpa using h7]
       grind
      rw[show(p.Kind==2)=false by simpa using h7]
      grind
     rw[Ah h5];exact⟨_,rfl,by grind⟩
    rw[Ah h4];exact⟨_,rfl,by grind⟩
   rw[Ah h3];exact⟨_,rfl,by grind⟩
  rw[Ah h2];exact⟨_,rfl,by grind⟩
 rw[Ah h1];exact⟨_,rfl,by grind⟩
theorem zE (h:Jo p):Kw p=some true:=by
 obtain⟨v,h1,h2⟩:=TU p;rw[h1,h2.2 h]
theorem vI (h:Jo p):∃t,Eu p=some (t,true)/\1<=(L t).length/\(L t).length<=120/\F8 t=some (p,true):=by
 obtain⟨h1,h2,h3,h4,h5,h6,h7⟩:=h
 let k:UInt8:=UInt8.ofNat p.Kind.toNat
 have hk:(k.toNat:Int)=p.Kind:=by
  show((UInt8.ofNat p.Kind.toNat).toNat:Int)=p.Kind;rw[GX];omega
 let u:=bs<|[k]++Co p.Seq.toNat++Co p.Tx.toNat++Co p.Part.toNat++Co p.Count.toNat++L p.Text
 have hu:L u=[k]++Co p.Seq.toNat++Co p.Tx.toNat++Co p.Part.toNat++Co p.Count.toNat++L p.Text:=EO _;have l1:=I6 (show p.Seq.toNat<=1000000000 by omega);have l2:=I6 (show p.Tx.toNat<=1000000000 by omega);have l3:=I6 (show p.Part.toNat<=1000000000 by omega);have l4:=I6 (show p.Count.toNat<=1000000000 by omega);have e:(L u).length=1+(Co p.Seq.toNat).length+(Co p.Tx.toNat).length+(Co p.Part.toNat).length+(Co p.Count.toNat).length+(L p.Text).length:=by
  rw[hu];simp only[Ak,Bf]
 have l5:(L u).length<=116:=by omega
 obtain⟨v,hv,hs⟩:=(Tl u).2 (by omega);have c:=zE ⟨h1,h2,h3,h4,h5,h6,h7⟩;have a:=XD p u k p.Seq.toNat p.Tx.toNat p.Part.toNat p.Count.toNat c hk.symm (by omega) (by omega) (by omega) (by omega) (by omega) (by omega) (by omega) (by omega) (by omega) hu;rw[hs]at a;refine⟨u++four v,a,by rw[DL,Ak];omega,by rw[DL,Ak,VG];omega,?_⟩;unfold F8;rw[r6 u (by omega) hv];simp only[Aa,Ag,Ac];rw[Bz,Ah<|by omega];have d0:(L u).drop 1=Co p.Seq.toNat++(Co p.Tx.toNat++(Co p.Part.toNat++(Co p.Count.toNat++L p.Text))):=by
  rw[hu];simp
 rw[show(1:Int)=((1:Nat):Int)from rfl,L6 u (by omega) 1 p.Seq.toNat (by omega) _ d0];simp only[Aa];have d1:(L u).drop (1+(Co p.Seq.toNat).length)=Co p.Tx.toNat++(Co p.Part.toNat++(Co p.Count.toNat++L p.Text)):=by rw[<-C4,d0,G0 rfl]
 rw[L6 u (by omega) _ p.Tx.toNat (by omega) _ d1];simp only[Aa];have d2:(L u).drop (1+(Co p.Seq.toNat).length+(Co p.Tx.toNat).length)=Co p.Part.toNat++(Co p.Count.toNat++L p.Text):=by rw[<-C4,d1,G0 rfl]
 rw[L6 u (by omega) _ p.Part.toNat (by omega) _ d2];simp only[Aa];have d3:(L u).drop (1+(Co p.Seq.toNat).length+(Co p.Tx.toNat).length+(Co p.Part.toNat).length)=Co p.Count.toNat++L p.Text:=by rw[<-C4,d2,G0 rfl]
 rw[L6 u (by omega) _ p.Count.toNat (by omega) _ d3];simp only[Aa,Ac];have d4:(L u).drop (1+(Co p.Seq.toNat).length+(Co p.Tx.toNat).length+(Co p.Part.toNat).length+(Co p.Count.toNat).length)=L p.Text:=by rw[<-C4,d3,G0 rfl]
 have d:sx u 0=some ((k.toNat:Nat):Int):=by
  rw[show(0:Int)=((0:Nat):Int)from rfl,Fg u<|by omega];rfl
 rw[d];simp only[Aa];have b:sub u ((1+(Co p.Seq.toNat).length+(Co p.Tx.toNat).length+(Co p.Part.toNat).length+(Co p.Count.toNat).length:Nat):Int) ((L u).length:Int)=some p.Text:=by
  rw[FK u (by omega)<|by omega];congr 1;apply KU;rw[IB,d4,AH<|by omega]
 rw[b,Aa,Pm (by omega) (by omega),hk,AX (by omega),AX (by omega),AX (by omega),AX<|by omega];have hp:Page.mk p.Kind p.Seq p.Tx p.Part p.Count p.Text=p:=rfl;rw[hp,a];simp only[Aa,Ag,Ac];have:seq (u++four v) (u++four v)=true:=by rw[JD];simp
 rw[this];rfl
theorem zD (h:¬Jo p):Eu p=some (bs [],false):=by
 obtain⟨v,h1,h2⟩:=TU p;unfold Eu
 grind
theorem u0 (s:ByteArray) (f a:Nat) (hf:f<a) (ha:a<=(L s).length) (hs:(L s).length<=64):∃k:Nat,NO s (f:Int) (a:Int)=some (k:Int)/\k<=31/\a+k<=(L s).length/\∀j,j<k->(L s)[f+j]?=(L s)[a+j]? :=by
 obtain⟨b,h1,k,rfl,h2,h3,h4⟩:=AJ (body:=λn:Int=>Jj s (f:Int) (a:Int) n) (λ(_:Unit) i=>i) 31 (λi _=>a+i<=(L s).length/\∀j,j<i->(L s)[f+j]?=(L s)[a+j]?) (λb=>∃k:Nat,b=(k:Int)/\k<=31/\a+k<=(L s).length/\∀j,j<k->(L s)[f+j]?=(L s)[a+j]?)
  (λ_ i hi hs=>by
   simp only[Jj];rw[cT,Cs,Cs,Bz];by_cases c:a+i<(L s).length
   ·rw[cT];have e1:((f:Int)+(i:Int))=((f+i:Nat):Int):=by omega
    have e2:((a:Int)+(i:Int))=((a+i:Nat):Int):=by omega
    rw[e1,e2,Fg s (by omega),Fg s c];simp only[Aa]
    cases hq:((((L s)[f+i]).toNat:Int)==(((L s)[a+i]).toNat:Int))with
    |true=>
     simp only[Ae];rw[ad1];refine .inl ⟨(),rfl,by omega,λj hj=>?_⟩;by_cases e:j=i
     ·subst e;rw[Ab (by omega),Ab c];congr 1;apply UInt8.toNat_inj.1
      grind
     grind
    |false=>grind
   grind)
  (λ_ hs=>by
   simp only[Jj];rw[cF]
   exact⟨_,rfl,31,rfl,by omega,hs.1,hs.2⟩) (s:=()) ⟨by omega,λj hj=>by omega⟩
 refine⟨k,?_,h2,h3,h4⟩;unfold NO
 grind
def AAG (s:ByteArray) (a z b:Nat):Prop:=z<=31/\a+z<=(L s).length/\(z=0\/(4<=z/\1<=b/\b<=a/\∀j,j<z->(L s)[a-b+j]?=(L s)[a+j]?))
theorem yL (s:ByteArray) (a:Nat) (ha:a<=(L s).length) (hs:(L s).length<=64):∃z b:Nat,Ao (λq:Int×Int×Int=>E4 s (a:Int) q.1 q.2.1 q.2.2) (0,0,sb (a:Int) 1)=some ((z:Int),(b:Int))/\AAG s a z b:=by
 rw[Ch];obtain⟨r,h1,z,b,rfl,h2⟩:=AJ (body:=λq:Int×Int×Int=>E4 s (a:Int) q.1 q.2.1 q.2.2) (λ(q:Nat×Nat) i=>((q.1:Int),(q.2:Int),(a:Int)-1-i)) a (λi q=>AAG s a q.1 q.2) (λr=>∃z b:Nat,r=((z:Int),(b:Int))/\AAG s a z b)
  (λq i hi hq=>by
   obtain⟨k,m1,m2,m3,m4⟩:=u0 s (a-1-i) a (by omega) ha hs;have e1:((a:Int)-1-(i:Int))=((a-1-i:Nat):Int):=by omega
   simp only[E4,e1];rw[Ad (by omega:(((a-1-i:Nat)):Int)>=0),Ae,m1,Aa,Ch,Ch];refine .inl ?_;have e2:(((a-1-i:Nat):Int)-1)=(a:Int)-1-((i+1:Nat):Int):=by omega
   have e3:((a:Int)-((a-1-i:Nat):Int))=((1+i:Nat):Int):=by omega
   rw[e2,e3];by_cases h4:4<=k
   ·rw[cT];by_cases h5:q.1<k
    ·rw[Ad (by omega:(k:Int)>(q.1:Int))];exact⟨(k,1+i),rfl,m2,m3,.inr ⟨h4,by omega,by omega,λj hj=>by grind⟩⟩
    grind
   grind)
  (λq hq=>by
   simp only[E4]
   grind) (s:=(0,0)) ⟨by omega,by omega,.inl rfl⟩
 grind
def VN:Nat->Nat->List UInt8->List UInt8
 |0,_,out=>out
 |n+1,b,out=>VN n b (out++ [(out[out.length-b]?).getD 0])
def WC (a:List UInt8) (t:AW):List UInt8:=if t.Back=0 then a++L t.Text else VN t.Size.toNat t.Back.toNat a
def FD (l:List AW):List UInt8:=l.foldl WC []
def okT (a:List UInt8) (t:AW):Prop:=(t.Back=0/\t.Size=0/\1<=(L t.Text).length/\(L t.Text).length<=31)\/(1<=t.Back/\t.Back<=(a.length:Int)/\1<=t.Size/\t.Size<=31/\L t.Text=[])
def zN (l:List AW):Prop:=∀(i:Nat) t,l[i]?=some t->okT (FD<|l.take i) t
theorem Pz (l:List AW) (t:AW):FD (l++ [t])=WC (FD l) t:=by unfold FD;grind
theorem iW {t:AW} (h:zN l) (ht:okT (FD l) t):zN (l++ [t]):=by
 intro i x hx;by_cases e:i<l.length
 ·rw[BZ e]at hx;rw[List.take_append_of_le_length<|by omega];exact h i x hx
 grind
theorem zM {t:AW} (h:zN (l++ [t])):zN l/\okT (FD l) t:=by
 refine⟨λi x hx=>?_,?_⟩
 ·have hi:=(Af.1 hx).1;have:=h i x (by grind)
  grind
 have:=h l.length t<|by grind
 grind
theorem fW (S:List UInt8):∀(n a b:Nat),a+n<=S.length->1<=b->b<=a->(∀j,j<n->S[a-b+j]?=S[a+j]?)->VN n b (S.take a)=S.take (a+n)
 |0,a,b,_,_,_,_=>rfl
 |n+1,a,b,h1,h2,h3,h4=>by
  rw[VN];have hl:(S.take a).length=a:=by grind
  have e:((S.take a)[(S.take a).length-b]?).getD 0=S[a]'(by omega):=by
   rw[hl,List.getElem?_take_of_lt<|by omega];have:=h4 0<|by omega
   grind
  rw[e,<-An (by omega),fW S n (a+1) b (by omega) h2 (by omega) λj hj=>by grind];congr 1;omega
theorem oG:∀(n b:Nat) (a:List UInt8),(VN n b a).length=a.length+n
 |0,_,_=>rfl
 |n+1,b,a=>by rw[VN,oG];simp;omega
theorem UR (s:ByteArray) (hs:(L s).length<=64):∀(n a:Nat) (c:List AW),(L s).length-a<=n->a<=(L s).length->c.length<=a->zN c->FD c=(L s).take a->∃l,Ao (λq:List AW×Int=>Cv s q.1 q.2) (c,(a:Int))=some l/\zN l/\FD l=L s/\l.length<=64
 |n,a,c,hn,ha,m,g,d=>by
  by_cases h:a<(L s).length
  ·obtain⟨z,b,h1,h2,h3,h4⟩:=yL s a ha hs
   match n,hn with
   |0,hn=>omega
   |n+1,hn=>
   have p:((L s).take a).length=a:=by grind
   rcases h4 with rfl|⟨h4,h5,h6,h7⟩
   ·
    have f:sub s (a:Int) ((a+1:Nat):Int)=some (s.extract a<|a+1):=FK s (by omega) (by omega);have hx:L (s.extract a<|a+1)=[(L s)[a]]:=by
     rw[IB,show a+1-a=1 by omega,AL h];rfl
    have fresh:∃l,Ao (λq:List AW×Int=>Cv s q.1 q.2) (c++ [AW.mk 0 0<|s.extract a<|a+1],((a+1:Nat):Int))=some l/\zN l/\FD l=L s/\l.length<=64:=
     UR s hs n (a+1) _ (by omega) (by omega) (by simp;omega) (iW g<|.inl ⟨rfl,rfl,by rw[hx];simp,by rw[hx];simp⟩) (by
      rw[Pz];unfold WC
      rw[AB rfl,d,hx,An h])
    rcases Hh c with e|⟨out0,t0,e⟩
    ·subst e;obtain⟨l,f1,f2⟩:=fresh;refine⟨l,?_,f2⟩;rw[Aw];have hb:Cv s [] (a:Int)=some (.inl ([AW.mk 0 0<|s.extract a<|a+1],((a+1:Nat):Int))):=by
      simp only[Cv];rw[Bz,cT,h1];simp only[Aa];rw[show decide ((((0:Nat):Int))>0)=false from rfl,Ac,ad1,f,show decide ((sb (ln ([]:List AW)) 1)>=0)=false from rfl];rfl
     grind
    rw[Kh]at e;subst e;obtain⟨ok0,okt0⟩:=zM g;have hol':out0.length+1<=a:=by simpa using m
    have o:ln (out0++ [t0])=((out0.length+1:Nat):Int):=by rw[Bq];simp
    have i:sb (ln<|out0++ [t0]) 1=(out0.length:Int):=by rw[o,Ch];omega
    have j:gi (out0++ [t0]) (out0.length:Int)=some t0:=Ft _ _;by_cases hm:t0.Back=0/\(L t0.Text).length<31
    ·have k:HR t0.Text (s.extract a<|a+1)=some (t0.Text++s.extract a (a+1)):=FR _ _ (by rw[hx];simp;omega);have hb:Cv s (out0++ [t0]) (a:Int)=some (.inl (out0++ [AW.mk t0.Back t0.Size<|t0.Text++s.extract a (a+1)],((a+1:Nat):Int))):=by
      simp only[Cv];rw[Bz,cT,h1];simp only[Aa];rw[show decide ((((0:Nat):Int))>0)=false from rfl,Ac,ad1,f,i,cT,j];simp only[Aa];rw[show(t0.Back==0)=true by simpa using hm.1,Ae,Bz,Ad<|by omega];simp only[Aa,Ae];rw[k];simp only[Aa];rw[JL]
     have hX:L (t0.Text++s.extract a (a+1))=L t0.Text++ [(L s)[a]]:=by rw[DL,hx]
     obtain⟨l,f1,f2⟩:=UR s hs n (a+1) (out0++ [AW.mk t0.Back t0.Size<|t0.Text++s.extract a (a+1)]) (by omega) (by omega) (by grind) (iW ok0 (by
      rcases okt0 with⟨k1,k2,k3,k4⟩|⟨k1,_⟩
      ·exact .inl ⟨k1,k2,by rw[hX];simp,by rw[hX];simp;omega⟩
      ·omega)) (by
      rw[Pz]at d⊢;unfold WC at d⊢;rw[AB hm.1]at d⊢
      rw[hX,<-AE,d,An h])
     refine⟨l,?_,f2⟩;rw[Aw]
     grind
    have hb:Cv s (out0++ [t0]) (a:Int)=some (.inl (out0++ [t0]++ [AW.mk 0 0<|s.extract a<|a+1],((a+1:Nat):Int))):=by
     simp only[Cv];rw[Bz,cT,h1];simp only[Aa];rw[show decide ((((0:Nat):Int))>0)=false from rfl,Ac,ad1,f,i,cT,j];simp only[Aa];have hj:(bif t0.Back==0 then some (decide<|FQ t0.Text<31)else some false:Option Bool)=some false:=by
      by_cases e0:t0.Back=0
      ·rw[show(t0.Back==0)=true by simpa using e0,Ae,Bz,Ah<|by omega]
      grind
     rw[hj];simp only[Aa,Ac];rw[BC<|by grind];rfl
    obtain⟨l,f1,f2⟩:=fresh;refine⟨l,?_,f2⟩;rw[Aw]
    grind
   have hb:Cv s c (a:Int)=some (.inl (c++ [AW.mk (b:Int) (z:Int)<|bs []],((a+z:Nat):Int))):=by
    simp only[Cv];rw[Bz,cT,h1];simp only[Aa];rw[cT,BC (by simp;omega),Cs];rfl
   obtain⟨l,f1,f2⟩:=UR s hs n (a+z) (c++ [AW.mk (b:Int) (z:Int)<|bs []]) (by omega) h3 (by simp;omega) (iW g<|.inr ⟨by simp;omega,by grind,by simp;omega,by simp;omega,EO _⟩) (by
    rw[Pz];unfold WC;rw[AA (by simp;omega),d];simp only[Bi]
    exact fW (L s) z a b h3 h5 h6 h7)
   refine⟨l,?_,f2⟩;rw[Aw]
   grind
  have ea:a=(L s).length:=by omega
  refine⟨c,?_,g,by grind,by omega⟩;rw[Aw];have hb:Cv s c (a:Int)=some (.inr c):=by
   simp only[Cv];rw[Bz,cF]
  simp only[hb]
theorem AAM (s:ByteArray) (hs:(L s).length<=64):∃l,Ls s=some l/\zN l/\FD l=L s/\l.length<=64:=by
 obtain⟨l,h1,h2⟩:=UR s hs (L s).length 0 [] (by omega) (by omega) (by simp) (λi t h=>by simp at h) (by simp[FD]);refine⟨l,?_,h2⟩;unfold Ls;rw[Bz,cF]
 grind
def MO (t:AW):List UInt8:=if t.Back=0 then UInt8.ofNat (L t.Text).length::L t.Text else [UInt8.ofNat (128+t.Size).toNat,UInt8.ofNat t.Back.toNat]
theorem tU {t:AW} {a:List UInt8} (h:okT a t) (ho:a.length<=64):(MO t).length<=32:=by
 unfold MO
 rcases h with⟨h1,h2,h3,h4⟩|⟨h1,h2,h3,h4,h5⟩
 ·grind
 grind
theorem ABT {t:AW} {a:List UInt8} (h:okT a t):a.length<=(WC a t).length:=by
 unfold WC;split
 ·simp
 rw[oG];omega
theorem NT (h:zN l):∀i,i<=l.length->(FD (l.take i)).length<=(FD l).length:=by
 have step:∀i,i<l.length->(FD<|l.take i).length<=(FD<|l.take<|i+1).length:=λi hi=>by
  rw[An hi,Pz];exact ABT<|h i _<|Ab hi
 intro i hi;have:∀k,i+k<=l.length->(FD<|l.take i).length<=(FD<|l.take<|i+k).length:=by
  intro k
  induction k with
  |zero=>grind
  |succ k ih=>grind
 have:=this (l.length-i) (by omega);rw[show i+(l.length-i)=l.length by omega,DK]at this;exact this
theorem ADn (s:ByteArray) (hs:(L s).length<=64):∃l,zN l/\FD l=L s/\l.length<=64/\((EV s=some (bs (122::l.flatMap MO),true))\/EV s=some (bs (114::L s),true)):=by
 obtain⟨l,h1,h2,h3,h4⟩:=AAM s hs;refine⟨l,h2,h3,h4,?_⟩;unfold EV;rw[Bz,cF,h1];simp only[Aa];obtain⟨b,q1,q2⟩:=AJ (body:=λq:ByteArray×Int=>Fq l q.1 q.2) (λz i=>(z,i)) l.length (λi z=>L z=122::(l.take i).flatMap MO/\(L z).length<=1+32*i) (λz=>L z=122::l.flatMap MO/\(L z).length<=3000)
  (λz i hi hz=>by
   have hx:=Ab hi;have c:=h2 i _ hx;have a:=NT h2 i (by omega);rw[h3]at a;have d:=tU c (by omega);have et:(l.take<|i+1).flatMap MO=(l.take i).flatMap MO++MO l[i]:=by rw[An hi,List.flatMap_append];simp
   simp only[Fq,Eh hi,Ar,hx,Aa];rw[ad1];refine .inl ?_
   rcases c with⟨k1,k2,k3,k4⟩|⟨k1,k2,k3,k4,k5⟩
   ·rw[show(l[i].Back==0)=true by simpa using k1,Ae,FR _ _ (by rw[R5];omega)];rw[Aa,FR _ _ (by rw[DL,Ak,R5];omega)];have hL:L (z++Fi [IntKind.u8.wrap<|FQ l[i].Text]++l[i].Text)=L z++MO l[i]:=by
     rw[DL,DL,LM];unfold MO;rw[AB k1,Bz];have:IntKind.u8.wrap ((L l[i].Text).length:Int)=((L l[i].Text).length:Int):=by rw[IntKind.wrap_u8];omega
     grind
    grind
   rw[show(l[i].Back==0)=false by simp;omega,Ac,Cs,FR _ _ (by rw[NF];simp;omega)];have hL:L (z++Fi [IntKind.u8.wrap<|128+l[i].Size,IntKind.u8.wrap l[i].Back])=L z++MO l[i]:=by
    rw[DL,LM];unfold MO;rw[AA<|by omega];have e1:IntKind.u8.wrap (128+l[i].Size)=128+l[i].Size:=by rw[IntKind.wrap_u8];omega
    have e2:IntKind.u8.wrap l[i].Back=l[i].Back:=by rw[IntKind.wrap_u8];omega
    grind
   grind)
  (λz hz=>⟨z,by simp only[Fq,DN],by grind,by omega⟩) (s:=bs [122]) ⟨by rw[EO];rfl,by rw[EO];simp⟩
 rw[q1];simp only[Aa];have hb:b=bs (122::l.flatMap MO):=KU<|by rw[q2.1,EO]
 cases decide (ad ((L s).length:Int) 1<=FQ b)with
 |false=>left;rw[hb];rfl
 |true=>
  right;simp only[Ae];rw[FR _ _ (by rw[EO];simp;omega)];rfl
theorem Wg (t:ByteArray) (ht:(L t).length<=10000):∀(l:List AW) (a:Nat) (c:List AW),(∀x∈l,∃o:List UInt8,okT o x/\o.length<=64)->(L t).drop a=l.flatMap MO->a<=(L t).length->c.length<=a->Ao (λq:List AW×Int=>BT t q.1 q.2) (c,(a:Int))=some (.inl (c++l))
 |[],a,c,hl,h,ha,ho=>by
  have:(L t).length=a:=by
   have:=BQ List.length h
   grind
  rw[Aw];have hb:BT t c (a:Int)=some (.inr<|.inl c):=by
   simp only[BT];rw[Bz,cF]
  grind
 |x::l,a,c,hl,h,ha,ho=>by
  obtain⟨o,m,p⟩:=hl x (by simp);rw[Kj]at h;have d:=BQ List.length h;rw[CV,Ak]at d
  rcases m with⟨k1,k2,k3,k4⟩|⟨k1,k2,k3,k4,k5⟩
  ·have he:MO x=UInt8.ofNat (L x.Text).length::L x.Text:=by unfold MO;rw[AB k1]
   rw[he]at h d;rw[A8]at d;have f:a<(L t).length:=by omega
   have e:=AL f;rw[h,B8]at e
   injection e with hx hd
   have i:(((L t)[a]).toNat:Int)=((L x.Text).length:Int):=by rw[<-hx,GX];omega
   have k:sub t ((a+1:Nat):Int) ((a+1+(L x.Text).length:Nat):Int)=some x.Text:=by
    rw[FK t (by omega)<|by omega];congr 1;apply KU;rw[IB,<-hd,show a+1+(L x.Text).length-(a+1)=(L x.Text).length by omega,List.take_left' rfl]
   have hb:BT t c (a:Int)=some (.inl (c++ [AW.mk 0 0 x.Text],((a+1+(L x.Text).length:Nat):Int))):=by
    simp only[BT];rw[Bz,cT,Fg t f,Aa,i,Pm (by omega) (by omega),cF,ad1,Cs,cF,show((a+1:Nat):Int)+((L x.Text).length:Int)=((a+1+(L x.Text).length:Nat):Int) by omega,k,Aa,BC (by simp;omega)];rfl
   have j:AW.mk 0 0 x.Text=x:=by
    cases x with
    |mk b z u=>grind
   rw[j]at hb;rw[Aw];simp only[hb];have:=Wg t ht l (a+1+(L x.Text).length) (c++ [x]) (λy hy=>hl y<|by simp[hy]) (by rw[<-C4,<-hd,G0 rfl]) (by omega) (by simp;omega)
   grind
  have he:MO x=[UInt8.ofNat (128+x.Size).toNat,UInt8.ofNat x.Back.toNat]:=by unfold MO;grind
  rw[he]at h d;simp only[A8,Fc]at d;have f:a<(L t).length:=by omega
  have e:=AL f;rw[h]at e;simp only[B8,A5]at e
  injection e with hx hd
  have g:=AL (show a+1<(L t).length by omega);rw[<-hd]at g
  injection g with hx2 hd2
  have i:(((L t)[a]).toNat:Int)=128+x.Size:=by rw[<-hx,GX];omega
  have n:(((L t)[a+1]'(by omega)).toNat:Int)=x.Back:=by rw[<-hx2,GX];omega
  have hb:BT t c (a:Int)=some (.inl (c++ [AW.mk x.Back x.Size<|bs []],((a+2:Nat):Int))):=by
   simp only[BT];rw[Bz,cT,Fg t f,Aa,i,Pm (by omega) (by omega),cT,Cs (b:=2) (by omega) (by omega),cF,ad1,Fg t (by omega),Aa,n,Pm (by omega) (by omega),Ch,BC (by simp;omega),Aa,show 128+x.Size-128=x.Size by omega];rfl
  have j:AW.mk x.Back x.Size (bs [])=x:=by
   cases x with
   |mk b z u=>simp only at k5⊢;rw[show bs []=u from KU<|by rw[k5,EO]]
  rw[j]at hb;rw[Aw];simp only[hb];have:=Wg t ht l (a+2) (c++ [x]) (λy hy=>hl y<|by simp[hy]) (by grind) (by omega) (by simp;omega)
  grind
def Hd (l:List UInt8):List Int:=l.map λc=>(c.toNat:Int)
theorem vM (l:List UInt8):L (Fi (Hd l))=l:=by
 rw[LM,Hd,GE];have:((λn:Int=>UInt8.ofNat n.toNat)∘λc:UInt8=>(c.toNat:Int))=id:=by
  funext c;simp
 rw[this,UD]
theorem yJ (b:ByteArray):pZ b=Hd (L b):=rfl
theorem Zo (x:AW) (b:1<=x.Back) (hs:0<=x.Size/\x.Size<=31):∀(n k:Nat) (a:List UInt8),(k:Int)+n=x.Size->x.Back<=(a.length:Int)->a.length+n<=1000->Ao (λq:List Int×Int=>DV x q.1 q.2) (Hd a,(k:Int))=some (Hd (VN n x.Back.toNat a))
 |0,k,a,hk,c,ho=>by
  rw[Aw];have hb:DV x (Hd a) (k:Int)=some (.inr (Hd a)):=by
   simp only[DV];rw[cF]
  simp only[hb];rfl
 |n+1,k,a,hk,c,ho=>by
  have d:ln (Hd a)=(a.length:Int):=by rw[Bq,Hd,Bm]
  have e:gi (Hd a) ((a.length:Int)-x.Back)=some (((a[a.length-x.Back.toNat]?).getD 0).toNat:Int):=by
   rw[show(a.length:Int)-x.Back=((a.length-x.Back.toNat:Nat):Int) by omega,Ar,Hd,Ce,Ab<|by omega];rfl
  have hb:DV x (Hd a) (k:Int)=some (.inl (Hd<|a++ [(a[a.length-x.Back.toNat]?).getD 0],((k+1:Nat):Int))):=by
   simp only[DV];rw[cT,d,Ch,e,Aa,BC (by simp[Hd];omega),ad1];simp only[Aa,Hd,Ci,Cx,List.map_nil]
  rw[Aw];simp only[hb];rw[VN];exact Zo x b hs n (k+1) _ (by omega) (by simp;omega) (by simp;omega)
theorem qK (l:List AW) (hl:l.length<=64) (a:zN l) (h64:(FD l).length<=64):Ao (λq:List Int×Int=>DW l q.1 q.2) ([],0)=some (.inl (Hd (FD l))):=by
 obtain⟨b,h1,h2⟩:=AJ (body:=λq:List Int×Int=>DW l q.1 q.2) (λ(o:List UInt8) i=>(Hd o,i)) l.length (λi o=>o=FD (l.take i)) (λb=>b= .inl (Hd<|FD l))
  (λo i hi ho=>by
   have hx:=Ab hi;have hk:=a i _ hx;have hm:=NT a i (by omega);have d:=NT a (i+1) (by omega);have et:FD (l.take<|i+1)=WC o l[i]:=by rw[An hi,Pz,ho]
   rw[<-ho]at hk hm;rw[et]at d
   have c:∀q:List UInt8,ln (Hd q)=(q.length:Int):=λq=>by rw[Bq,Hd,Bm]
   simp only[DW,Eh hi,Ar,hx,Aa];refine .inl ⟨WC o l[i],?_,et.symm⟩
   rcases hk with⟨k1,k2,k3,k4⟩|⟨k1,k2,k3,k4,k5⟩
   ·rw[show(l[i].Back==0)=true by simpa using k1,Ae,Bz,Ew,Ad<|by omega];simp only[Aa,Ag,Ac];rw[show(l[i].Size !=0)=false by simp[k2],yJ];simp only[Ac];have e1:ap 1 (Hd o) (Hd<|L l[i].Text)=some (Hd<|WC o l[i]):=by
     rw[BC (by simp[Hd];omega)];unfold WC;rw[AB k1];simp[Hd]
    rw[e1];simp only[Aa,Bv];rw[c,cF,ad1]
   rw[show(l[i].Back==0)=false by simp;omega,Ac,c,Ew,Ad<|by omega];simp only[Aa,Ag,Ac];rw[Ew,Ad<|by omega];simp only[Aa,Ag,Ac];have e:seq l[i].Text (bs [])=true:=by rw[JD,A3];exact KU<|by rw[k5,EO]
   rw[e];simp only[Ag,Ac];have e1:=Zo l[i] k1 ⟨by omega,k4⟩ l[i].Size.toNat 0 o (by omega) k2 (by omega);rw[show((0:Nat):Int)=0 from rfl]at e1;rw[e1];have e2:VN l[i].Size.toNat l[i].Back.toNat o=WC o l[i]:=by unfold WC;grind
   rw[e2];simp only[Aa,Bv]
   rw[c,cF,ad1])
  (λo ho=>⟨.inl<|Hd o,by simp only[DW,DN],by grind⟩) (s:=[]) rfl
 rw[<-h2];exact h1
theorem oX (s:ByteArray) (hs:(L s).length<=64):∃z,EV s=some (z,true)/\Gq z=some (s,true)/\1<=(L z).length:=by
 obtain⟨l,h1,h2,h3,h4⟩:=ADn s hs;have fin:∀z:ByteArray,EV s=some (z,true)->((EV s).bind λv3=>(cond (!v3.2) (some true) (some<|!(seq v3.1 z)):Option Bool).bind λj2=>cond j2 (some (bs [],false))<|some (s,true))=some (s,true):=by
  intro z hz;rw[hz];have:seq z z=true:=by rw[JD];simp
  grind
 rcases h4 with h4|h4
 ·refine⟨_,h4,?_,by rw[EO];simp⟩;have hf:=fin _ h4;generalize hz:bs (122::l.flatMap MO)=z at h4 hf;have hL:L z=122::l.flatMap MO:=by rw[<-hz,EO]
  have h:(L z).length<=3000:=by
   have:∀m:List AW,(∀x∈m,∃o:List UInt8,okT o x/\o.length<=64)->(m.flatMap MO).length<=32*m.length:=by
    intro m
    induction m with
    |nil=>intro _;simp
    |cons x m ih=>
     intro hm;obtain⟨o,e,f⟩:=hm x (by simp);have:=tU e f
     grind
   have:=this l (λx hx=>by
    obtain⟨i,hi,rfl⟩:=A6 hx;have hm:=NT h1 i (by omega);rw[h2]at hm
    exact⟨_,h1 i _<|Ab hi,by omega⟩)
   grind
  unfold Gq;have a:1<=(L z).length:=by rw[hL];simp
  rw[Bz,show(((L z).length:Int)==0)=false by grind,Ac];have b:sub z 1 ((L z).length:Int)=some (bs<|l.flatMap MO):=by
   rw[show(1:Int)=((1:Nat):Int)from rfl,FK z a<|Ax _];congr 1;apply KU;rw[IB,EO,AH (by grind),hL];rfl
  have c:sx z 0=some 122:=by
   rw[show(0:Int)=((0:Nat):Int)from rfl,Fg z (i:=0) a];have:(L z)[0]?=some 122:=by rw[hL];rfl
   rw[Ab<|by omega]at this
   injection this with this
   rw[this];rfl
  rw[b,c];simp only[Aa];rw[show((122:Int)==122)=true from rfl];simp only[Ae];have g:(L<|bs<|l.flatMap MO).length<=10000:=by rw[EO];grind
  have d:=Wg (bs<|l.flatMap MO) g l 0 [] (λx hx=>by
    obtain⟨i,hi,rfl⟩:=A6 hx;have hm:=NT h1 i (by omega);rw[h2]at hm
    exact⟨_,h1 i _<|Ab hi,by omega⟩) (by rw[EO];rfl) (by omega)<|by simp
  rw[show((0:Nat):Int)=0 from rfl,A5]at d;have ht:JP (bs<|l.flatMap MO)=some (l,true):=by
   unfold JP;rw[d];rfl
  have hp:FY l=some (s,true):=by
   unfold FY;rw[qK l h3 h1 (by rw[h2];omega),h2];simp only[Aa,Bv];congr 2;apply KU;rw[vM]
  grind
 refine⟨_,h4,?_,by rw[EO];simp⟩;have hf:=fin _ h4;generalize hz:bs (114::L s)=z at h4 hf;have hL:L z=114::L s:=by rw[<-hz,EO]
 unfold Gq;have a:1<=(L z).length:=by rw[hL];simp
 rw[Bz,show(((L z).length:Int)==0)=false by grind,Ac];have b:sub z 1 ((L z).length:Int)=some s:=by
  rw[show(1:Int)=((1:Nat):Int)from rfl,FK z a<|Ax _];congr 1;apply KU;rw[IB,AH (by grind),hL];rfl
 have c:sx z 0=some 114:=by
  rw[show(0:Int)=((0:Nat):Int)from rfl,Fg z (i:=0) a];have:(L z)[0]?=some 114:=by rw[hL];rfl
  rw[Ab<|by omega]at this
  injection this with this
  rw[this];rfl
 grind
theorem VP (a b:List ByteArray):PJ (a++b)=PJ a++PJ b:=by unfold PJ;grind
theorem vD (a b:List Ct):Im (a++b)=Im a++Im b:=by unfold Im;grind
def Cm (seq tx:Int) (T:List ByteArray):List Page:=T.mapIdx λi t=>Page.mk 2 (seq+i) tx i T.length t
theorem wL (a:List Ct) (hr:a.length<=1048576) (h:∀r∈a,GC r=true):∃T:List ByteArray,Ao (λs:List ByteArray×Int=>DU a s.1 s.2) ([bs []],0)=some (.inl T)/\1<=T.length/\T.length<=1+a.length/\PJ T=Im a/\∀t∈T,(L t).length<=90:=by
 obtain⟨b,h1,T,h2,h3⟩:=AJ (body:=λs:List ByteArray×Int=>DU a s.1 s.2) (λ(o:List ByteArray) i=>(o,i)) a.length
  (λi T=>1<=T.length/\T.length<=1+i/\PJ T=Im (a.take i)/\∀t∈T,(L t).length<=90)
  (λb=>∃T:List ByteArray,b= .inl T/\1<=T.length/\T.length<=1+a.length/\PJ T=Im a/\∀t∈T,(L t).length<=90)
  (λT i hi hT=>by
   obtain⟨j,k,g,l⟩:=hT;have hx:=Ab hi;obtain⟨t,t1,t2⟩:=hZ<|h _<|Az hi;have m:=yV<|h _<|Az hi;rw[<-t2]at m;have et:Im (a.take<|i+1)=Im (a.take i)++L t:=by rw[An hi,vD,t2];simp[Im]
   rcases Hh T with e|⟨T0,c,e⟩
   ·subst e;simp at j
   rw[Kh]at e;subst e;have n:ln (T0++ [c])=((T0.length+1:Nat):Int):=by rw[Bq];simp
   rw[Ak,Bf]at j k;have p:sb (ln<|T0++ [c]) 1=(T0.length:Int):=by rw[n,Ch];omega
   have q:gi (T0++ [c]) (T0.length:Int)=some c:=Ft _ _;have u:=l c (by simp);rw[VP]at g;simp only[DU,Eh hi,Ar,hx,Aa];rw[t1];simp only[Aa,Ag,Ac];rw[p,q];simp only[Aa];rw[Bz,Bz,Cs,ad1];refine .inl ?_;by_cases f:((L c).length:Int)+((L t).length:Int)>90
   ·rw[Ad f,Ae,BC (by simp;omega)];refine⟨T0++ [c]++ [t],rfl,by simp,by simp;omega,?_,λx d=>?_⟩
    ·rw[VP,VP,et,g];simp[PJ]
    grind
   rw[Ah f,Ac,FR _ _<|by omega];simp only[Aa];rw[JL];refine⟨T0++ [c++t],rfl,by simp,by simp;omega,?_,λx d=>?_⟩
   ·rw[VP,et,<-g];simp[PJ,DL]
   rw[Ap,Br]at d
   rcases d with d|rfl
   ·grind
   rw[DL,Ak];omega)
  (λT hT=>⟨_,by simp only[DU,DN],T,rfl,hT.1,hT.2.1,by grind,hT.2.2.2⟩) (s:=[bs []]) ⟨by simp,by simp,by rfl,λt ht=>by rw[Br]at ht;rw[ht,EO];simp⟩
 grind
theorem wM (seq tx:Int) (a:List Ct) (hr:a.length<=1000) (c:∀r∈a,GC r=true):∃T:List ByteArray,1<=T.length/\PJ T=Im a/\(∀t∈T,(L t).length<=90)/\T.length<=1+a.length/\
  ((IG seq tx a=some (Cm seq tx T,true)/\T.length<=9/\1<=seq/\seq+T.length-1<=1000000000/\1<=tx/\tx<=1000000000)\/(IG seq tx a=some ([],false)/\¬(T.length<=9/\1<=seq/\seq+T.length-1<=1000000000/\1<=tx/\tx<=1000000000))):=by
 obtain⟨T,h1,h2,h2',h3,h4⟩:=wL a (by omega) c;refine⟨T,h2,h3,h4,h2',?_⟩;unfold IG;rw[h1];simp only[Aa,Bv];rw[Bq];by_cases h9:(T.length:Int)>9
 ·grind
 rw[Ah h9];simp only[Ac];rw[Ch,Cs,Ew,Ew];simp only[Aa];by_cases hs:1<=seq/\seq<=1000000000-(T.length:Int)+1
 ·rw[Ad hs];simp only[Ag,Ac];by_cases ht:1<=tx/\tx<=1000000000
  ·rw[Ad ht];simp only[Ag,Ac,Aa];left;obtain⟨b,q1,q2⟩:=AJ (body:=λs:List Page×Int=>Gr seq tx T s.1 s.2) (λ(o:List Page) i=>(o,i)) T.length (λi o=>o=(Cm seq tx T).take i) (λb=>b=Cm seq tx T)
    (λo i hi ho=>by
     have hx:=Ab hi;have e:o.length<=i:=by grind
     simp only[Gr,Eh hi,Ar,hx,Aa];rw[Cs,Bq,BC (by simp;omega),Aa,ad1];refine .inl ⟨_,rfl,?_⟩;have d:(Cm seq tx T)[i]?=some (Page.mk 2 (seq+i) tx i T.length T[i]):=by unfold Cm;grind
     rw[DP,d,ho]
     rfl)
    (λo ho=>⟨o,by simp only[Gr,DN],by rw[ho,AH];unfold Cm;grind⟩) (s:=[]) rfl
   grind
  grind
 grind
def Steps:Flash->List AS->Flash->Prop
 |f,[],g=>g=f
 |f,s::ss,g=>TP f s/\Steps (Me f s) ss g
theorem N9:∀(f:Flash) (a b:List AS) (g:Flash),Steps f (a++b) g↔∃m,Steps f a m/\Steps m b g
 |f,[],b,g=>⟨λh=>⟨f,rfl,h⟩,λ⟨m,h1,h2⟩=>by rw[h1]at h2;exact h2⟩
 |f,s::a,b,g=>by
  rw[B8];simp only[Steps,N9]
  grind
theorem Yz:∀{f:Flash} {a:List AS} {g:Flash},B9 f->Steps f a g->B9 g
 |f,[],g,hf,h=>by rw[h];exact hf
 |f,s::a,g,hf,h=>Yz (tA hf h.1) h.2
theorem sC {m:Flash} {s:AS} (h:Steps f a m) (hs:TP m s):Steps f (a++ [s]) (Me m s):=(N9 f a [s] _).2 ⟨m,h,hs,rfl⟩
theorem mO (hf:B9 f) (h:Steps f a g) (ha:a.length<=1048576):JV f a=some (g,(a.length:Int)):=by
 unfold JV;rw[Dc f hf.cap];simp only[Aa];obtain⟨b,h1,h2⟩:=AJ (body:=λs:Int×List Block=>DY a s.1 s.2) (λ(o:List Block) i=>(i,o)) a.length (λi o=>Steps f (a.take i) (Flash.mk o)/\Steps (Flash.mk o) (a.drop i) g) (λb=>b= .inl g.Blocks)
  (λo i hi hs=>by
   have hx:=Ab hi;obtain⟨s1,s2⟩:=hs;rw[AL hi]at s2;simp only[DY,Eh hi,Ar,hx,Aa];have hP:=Yz hf s1
   rcases TX hP a[i]with⟨k1,k2⟩|⟨k1,k2⟩
   ·rw[k2];simp only[Aa,Ag,Ac];rw[ad1];refine .inl ⟨(Me (Flash.mk o) a[i]).Blocks,rfl,?_,s2.2⟩;rw[An hi];exact sC s1 k1
   exact absurd s2.1 k1)
  (λo hs=>⟨.inl o,by simp only[DY,DN],by
   have:=hs.2;rw[List.drop_length]at this
   rw[show g=Flash.mk o from this]⟩) (s:=f.Blocks) ⟨rfl,h⟩
 rw[h1,h2];rfl
def IZ:Flash->List AS->List Page->Flash->Prop
 |f,[],[],g=>g=f
 |f,s::ss,p::ps,g=>s.Kind=1/\nE f s.Block s.Leaf s.Text/\F8 s.Text=some (p,true)/\IZ (Me f s) ss ps g
 |_,_,_,_=>False
theorem Fu:∀{f:Flash} {ss:List AS} {ps:List Page} {g:Flash},IZ f ss ps g->Steps f ss g/\ss.length=ps.length
 |f,[],[],g,h=>⟨h,rfl⟩
 |f,s::ss,p::ps,g,h=>⟨⟨.inl ⟨h.1,h.2.1⟩,(Fu h.2.2.2).1⟩,by rw[A8,A8,(Fu h.2.2.2).2]⟩
 |f,[],p::ps,g,h=>h.elim
 |f,s::ss,[],g,h=>h.elim
theorem bD:∀{f:Flash} {ss:List AS} {ps:List Page} {g:Flash} {b l:Int} {t:ByteArray} {p:Page},IZ f ss ps g->nE g b l t->F8 t=some (p,true)->IZ f (ss++ [AS.mk 1 b l t]) (ps++ [p]) (Vx g b l (Leaf.mk 1 t))
 |f,[],[],g,b,l,t,p,h,h1,h2=>by
  have:g=f:=h;subst this;exact⟨rfl,h1,h2,by unfold Me;rfl⟩
 |f,s::ss,q::ps,g,b,l,t,p,h,h1,h2=>⟨h.1,h.2.1,h.2.2.1,bD h.2.2.2 h1 h2⟩
 |f,[],q::ps,g,b,l,t,p,h,h1,h2=>h.elim
 |f,s::ss,[],g,b,l,t,p,h,h1,h2=>h.elim
def Cg (ss:List AS) (ps:List Page):List Aq:=List.zipWith (λs p=>Aq.mk s.Block s.Leaf p) ss ps
def Hv:Int->List Page->Prop
 |_,[]=>True
 |n,p::ps=>n<=p.Seq/\Hv (p.Seq+1) ps
theorem bE:∀{f:Flash} {ss:List AS} {ps:List Page} {g:Flash} {r:List Aq} {n:Int},B9 f->SR (K2 0 f.Blocks) r->IZ f ss ps g->(∀y∈r,y.Page.Seq<n)->Hv n ps->SR (K2 0 g.Blocks) (r++Cg ss ps)
 |f,[],[],g,r,n,hf,a,h,hn,ha=>by
  have:g=f:=h;subst this;unfold Cg;simpa using a
 |f,s::ss,p::ps,g,r,n,hf,a,h,hn,ha=>by
  obtain⟨h1,h2,h3,h4⟩:=h;obtain⟨k1,_,A,B,k2,k3,_⟩:=Uf hf h2;have c:Me f s=Vx f s.Block s.Leaf (Leaf.mk 1 s.Text):=by unfold Me;rw[AB h1]
  rw[c]at h4;have b:SR (K2 0 (Vx f s.Block s.Leaf<|Leaf.mk 1 s.Text).Blocks) (r++ [Aq.mk s.Block s.Leaf p]):=by
   rw[k3 p<|mV h3]
   refine SR.add (by grind) λx hx=>?_
   have:=hn x hx;have:=ha.1;show x.Page.Seq<p.Seq;omega
  have:=bE k1 b h4 (n:=p.Seq+1) (λy hy=>by
   rw[Ap,Br]at hy
   rcases hy with hy|rfl
   ·have:=hn y hy;have:=ha.1;omega
   grind) ha.2
  rw[AE]at this;exact this
 |f,[],q::ps,g,r,n,hf,a,h,hn,ha=>h.elim
 |f,s::ss,[],g,r,n,hf,a,h,hn,ha=>h.elim
theorem U5:∀{f:Flash} {ss:List AS} {ps:List Page} {g:Flash} (k:Nat),IZ f ss ps g->∃m,IZ f (ss.take k) (ps.take k) m
 |f,[],[],g,k,h=>⟨f,by simp[IZ]⟩
 |f,s::ss,p::ps,g,0,h=>⟨f,rfl⟩
 |f,s::ss,p::ps,g,k+1,h=>by
  obtain⟨m,hm⟩:=U5 k h.2.2.2;exact⟨m,h.1,h.2.1,h.2.2.1,hm⟩
 |f,[],q::ps,g,k,h=>h.elim
 |f,s::ss,[],g,k,h=>h.elim
theorem zB (hg:B9 g) (h:IZ f ss ps g) (hs:ss.length<=1000) (p:Page):
  (∃s g',DJ g ss p=some (g',ss++ [s],true)/\IZ f (ss++ [s]) (ps++ [p]) g'/\B9 g'/\Jo p/\Ui g s.Block s.Leaf)\/DJ g ss p=some (g,ss,false):=by
 by_cases hp:Jo p
 ·obtain⟨t,t1,t2,t3,t4⟩:=vI hp
  rcases YR hg ss (by omega) p t1 (λ_=>⟨t2,t3⟩)with⟨_,b,l,q1,_,q2⟩|q
  ·left;have hm:nE g b l t:=by
    obtain⟨x,a1,a2,a3,a4⟩:=q1;exact⟨x,a1,a2,a3,a4,t2,t3⟩
   exact⟨_,_,q2,bD h hm t4,(Uf hg hm).1,hp,q1⟩
  exact .inr q
 rcases YR hg ss (by omega) p (zD hp) (λhh=>by cases hh)with⟨hh,_⟩|q
 ·cases hh
 exact .inr q
theorem Zq (hf:B9 f) (ps:List Page) (rt:Bool) (c:ps.length<=9) (a:List Page) (ss0:List AS) (g0:Flash) (ok0:Bool) (h0:ok0=true->IZ f ss0 a g0/\B9 g0/\ss0.length<=1):
  ∃ss ok,Ao (λs:List AS×Bool×Int×List Block=>BW (ps,rt) s.1 s.2.1 s.2.2.1 s.2.2.2) (ss0,ok0,0,g0.Blocks)=some (ss,ok)/\(ok=true->ok0=true/\∃g,IZ f ss (a++ps) g/\B9 g/\∀p∈ps,Jo p):=by
 obtain⟨b,h1,h2⟩:=AJ (body:=λs:List AS×Bool×Int×List Block=>BW (ps,rt) s.1 s.2.1 s.2.2.1 s.2.2.2) (λ(o:List AS×Bool×List Block) i=>(o.1,o.2.1,i,o.2.2)) ps.length
  (λi o=>o.2.1=true->ok0=true/\IZ f o.1 (a++ps.take i) (Flash.mk o.2.2)/\B9 (Flash.mk o.2.2)/\o.1.length<=i+1/\∀p∈ps.take i,Jo p)
  (λb=>b.2=true->ok0=true/\∃g,IZ f b.1 (a++ps) g/\B9 g/\∀p∈ps,Jo p)
  (λo i hi hs=>by
   obtain⟨ss,ok,bl⟩:=o;have hx:=Ab hi;simp only[BW,IX,Ad hi,Ae,Aa]
   cases ok with
   |false=>grind
   |true=>
    obtain⟨k0,k1,k2,k3,k4⟩:=hs rfl;simp only at k1 k2 k3;simp only[Ae,Ar,hx,Aa];refine .inl ?_
    rcases zB k2 k1 (by omega) ps[i]with⟨s,g',q1,q2,q3,q4,_⟩|q
    ·rw[q1];simp only[Aa];rw[ad1];refine⟨(ss++ [s],true,g'.Blocks),rfl,λ_=>⟨k0,?_,q3,by simp;omega,λp hp=>?_⟩⟩
     ·rw[An hi,<-AE];exact q2
     rw[An hi,Ap,Br]at hp
     grind
    rw[q];simp only[Aa];rw[ad1]
    simp)
  (λo hs=>⟨(o.1,o.2.1),by simp only[BW,IX,EP,HI,Ac,Aa],λhh=>by grind⟩) (s:=(ss0,ok0,g0.Blocks)) (λhh=>by
    obtain⟨a1,a2,a3⟩:=h0 hh
    exact⟨hh,by rw[KY,A7];exact a1,a2,by simpa using a3,λp hp=>by simp at hp⟩)
 grind
def Da (d:Ay) (c:Int) (a:ByteArray):List Page:=if L a=[]then []else [Page.mk 1 d.Seq c 0 1 a]
def Jb (d:Ay) (a:ByteArray):Int:=if L a=[]then d.Seq else d.Seq+1
theorem Rd (hf:B9 d.Flash) (k:0<=d.Seq/\d.Seq<=1000000001) (b:List Ct) (i:b≠ []) (hr:b.length<=1000) (j:∀r∈b,GC r=true) (a:ByteArray):
  DB d b a=some ([],false)\/∃steps T g c,b[b.length-1]?=some c/\DB d b a=some (steps,true)/\1<=T.length/\T.length<=9/\PJ T=Im b/\(∀t∈T,(L t).length<=90)/\
   IZ d.Flash steps (Da d c.Chunk a++Cm (Jb d a) d.Tx T) g/\B9 g/\∀p∈Da d c.Chunk a++Cm (Jb d a) d.Tx T,Jo p:=by
 have l:0<b.length:=MH.2 i;obtain⟨c,h⟩:∃c,b[b.length-1]?=some c:=⟨_,Ab<|by omega⟩;unfold DB;rw[show(ln b==0)=false by rw[R0,Bq];omega];simp only[Ac];have first:∃ss0 g0 ok0,(cond (!(seq a<|bs [])) (((gi b<|sb (ln b) 1).bind λx1=>(DJ d.Flash []<|Page.mk 1 d.Seq x1.Chunk 0 1 a).bind λv1=>some (v1.2.1,v1.2.2,v1.1.Blocks):Option (List AS×Bool×List Block)).bind λj2=>some (j2.1,ad d.Seq 1,j2.2.1,j2.2.2)) (some ([],d.Seq,true,d.Flash.Blocks)):Option (List AS×Int×Bool×List Block))=some (ss0,Jb d a,ok0,Flash.Blocks g0)/\(ok0=true->IZ d.Flash ss0 (Da d c.Chunk a) g0/\B9 g0/\ss0.length<=1/\∀p∈Da d c.Chunk a,Jo p):=by
  by_cases ht:L a=[]
  ·have:seq a (bs [])=true:=by rw[JD,A3];exact KU (by rw[ht,EO])
   rw[this];refine⟨[],d.Flash,true,?_,λ_=>⟨?_,hf,by simp,?_⟩⟩
   ·unfold Jb;rw[AB ht];rfl
   ·unfold Da;rw[AB ht];rfl
   unfold Da;grind
  have:seq a (bs [])=false:=by
   rw[JD,Gi];intro e;exact ht<|by rw[e,EO]
  rw[this];simp only[AM,Ae];rw[Bq,Ch,show(b.length:Int)-1=((b.length-1:Nat):Int) by omega,Ar,h,Aa,Cs];have e1:Jb d a=d.Seq+1:=by unfold Jb;rw[AA ht]
  have e2:Da d c.Chunk a=[Page.mk 1 d.Seq c.Chunk 0 1 a]:=by unfold Da;rw[AA ht]
  rw[e1,e2]
  rcases zB (f:=d.Flash) (ss:=[]) (ps:=[]) hf rfl (by simp) (Page.mk 1 d.Seq c.Chunk 0 1 a)with⟨s,g',q1,q2,q3,q4,_⟩|q
  ·rw[q1];refine⟨_,g',true,rfl,λ_=>⟨q2,q3,by simp,λp hp=>?_⟩⟩
   grind
  rw[q];exact⟨_,d.Flash,false,rfl,λhh=>by cases hh⟩
 obtain⟨ss0,g0,ok0,e0,h0⟩:=first
 rw[e0];simp only[Aa];obtain⟨T,t1,t2,t3,_,t4⟩:=wM (Jb d a) d.Tx b hr j
 rcases t4 with⟨t4,t5,t6,t7,t8,t9⟩|⟨t4,_⟩
 ·rw[t4];simp only[Aa];obtain⟨ss,ok,q1,q2⟩:=Zq hf (Cm (Jb d a) d.Tx T) true (by unfold Cm;grind) (Da d c.Chunk a) ss0 g0 ok0 λhh=>⟨(h0 hh).1,(h0 hh).2.1,(h0 hh).2.2.1⟩;rw[q1];simp only[Aa]
  grind
 rw[t4];simp only[Aa];obtain⟨ss,ok,q1,q2⟩:=Zq hf [] false (by simp) (Da d c.Chunk a) ss0 g0 ok0 λhh=>⟨(h0 hh).1,(h0 hh).2.1,(h0 hh).2.2.1⟩
 grind
def K4 (r:List Aq) (c:Int):Option Aq:=(r.filter<|IM c).getLast?
noncomputable def Tn (t:ByteArray):Option ByteArray:=match Gq t with
 |some (s,true)=>some s
 |_=>none
noncomputable def Cb (r:List Aq) (c:Int):Option ByteArray:=(K4 r c).bind λy=>Tn y.Page.Text
theorem Sc:IM c y=true↔y.Page.Kind=1/\y.Page.Tx=c:=by
 unfold IM
 grind
theorem V3 (h:K4 r c=some y):y∈r/\y.Page.Kind=1/\y.Page.Tx=c:=by
 have:=List.mem_of_getLast? h;rw[Bc,Sc]at this;exact this
theorem M0 (r:List Aq) (y:Aq) (c:Int):K4 (r++ [y]) c=if y.Page.Kind=1/\y.Page.Tx=c then some y else K4 r c:=by
 unfold K4;rw[AI];by_cases e:y.Page.Kind=1/\y.Page.Tx=c
 ·rw[AB e,D3<|Sc.2 e,MW,List.getLast?_concat]
 rw[AA e,Ex λhh=>e<|Sc.1 hh,MW,A7]
theorem fC (r m:List Aq) (h:∀y∈m,y.Page.Kind≠1) (c:Int):K4 (r++m) c=K4 r c:=by
 unfold K4;rw[AI,Bk.2 λy hy hh=>h y hy (Sc.1 hh).1,A7]
theorem ZU {y:α} (l:List α) (p:α->Bool) (h:l.getLast? =some y) (hp:p y=true):(l.filter p).getLast? =some y:=by
 rcases Hh l with e|⟨m,x,e⟩
 ·rw[e]at h;cases h
 grind
theorem nC (p:Aq->Bool) (h:K4 r c=some y) (hp:p y=true):K4 (r.filter p) c=some y:=by
 unfold K4 at h⊢;rw[Et];have:r.filter (λa=>IM c a&&p a)=(r.filter<|IM c).filter p:=by
  rw[Et]
  grind
 rw[this];exact ZU _ p h hp
theorem Zv {o:Option Nat} (h:Rn c r r.length o):K4 r c=o.bind λj=>r[j]? :=by
 cases o with
 |none=>
  unfold K4;have:r.filter (IM c)=[]:=by
   rw[Bk];intro y hy;obtain⟨j,hj,rfl⟩:=A6 hy;have:=h j r[j] hj<|Ab hj;rw[this];simp
  rw[this];rfl
 |some j=>
  obtain⟨h1,⟨y,h2,h3⟩,h4⟩:=h;simp only[Aa,h2];unfold K4;obtain⟨e1,e2⟩:=JG h2;rw[e1,AI,D3 h3];have:(r.drop<|j+1).filter (IM c)=[]:=by
   rw[Bk];intro z hz;obtain⟨k,hk,rfl⟩:=A6 hz;rw[CV]at hk;rw[UE];have:=h4 (j+1+k) _ (by omega) (by omega) (Ab<|by omega);rw[this];simp
  grind
theorem qG (hr:r.length<=1048576) (c:Int):∃y ok,Mh r c=some (y,ok)/\K4 r c=(if ok=true then some y else none):=by
 obtain⟨o,h1,h2⟩:=fB r hr c;have h3:=Zv h2
 cases o with
 |none=>grind
 |some j=>
  obtain⟨_,⟨y,k1,_⟩,_⟩:=h2;refine⟨y,true,?_,by grind⟩;rw[h1];simp only[KO,k1,AY];rfl
theorem mE (hr:G9 r) (c:Int):∃u ok,Lm r c=some (u,ok)/\Cb r c=(if ok=true then some u else none):=by
 obtain⟨y,ok,h1,h2⟩:=qG hr.len c;unfold Lm Cb;rw[h1,h2]
 cases ok with
 |false=>simp
 |true=>
  have hy:=(V3 (by rw[h2];rfl)).1;obtain⟨u,ok2,k1,_,_⟩:=TG y.Page.Text (by have:=hr.text y hy;omega);simp only[Aa,Ag,Ac,BX];rw[k1];unfold Tn
  grind
structure J5 (r:List Aq):Prop where
 pages:G9 r
 inc:r.Pairwise λx y=>x.Page.Seq<y.Page.Seq
 mu:pA r
def Ea (l:Vs) (c:Int):Prop:=0<c/\∃p∈l,c∈p.2
structure GV (r:List Aq) (P:Int->Prop):Prop where
 data:∀c,P c->∃s,Cb r c=some s
 dist:∀c c',P c->P c'->Cb r c=Cb r c'->c=c'
theorem GV.mono {Q:Int->Prop} (h:GV r P) (hq:∀c,Q c->P c):GV r Q:=⟨λc hc=>h.data c<|hq c hc,λc c' hc hc'=>h.dist c c' (hq c hc)<|hq c' hc'⟩
theorem GV.congr (h:GV r P) (he:∀c,P c->Cb r' c=Cb r c):GV r' P:=⟨λc hc=>by rw[he c hc];exact h.data c hc,λc c' hc hc' e=>h.dist c c' hc hc'<|by grind⟩
theorem GV.metas (h:GV r P) (hm:∀y∈m,y.Page.Kind≠1):GV (r++m) P:=h.congr λc _=>by unfold Cb;rw[fC r m hm]
theorem pH (h:GV r P) (hy:¬P y.Page.Tx):GV (r++ [y]) P:=h.congr λc hc=>by
 unfold Cb;rw[M0,AA λhh=>hy (by rw[hh.2];exact hc)]
theorem pI (h:GV r P) (hy:Tn y.Page.Text=Cb r y.Page.Tx):GV (r++ [y]) P:=h.congr λc hc=>by
 by_cases e:y.Page.Kind=1/\y.Page.Tx=c
 ·have:Cb (r++ [y]) c=Tn y.Page.Text:=by unfold Cb;rw[M0,AB e];rfl
  rw[this,hy,e.2]
 unfold Cb;rw[M0,AA e]
theorem wR {s:ByteArray} (h:GV r P) (hk:y.Page.Kind=1) (hn:¬P y.Page.Tx) (ht:Tn y.Page.Text=some s) (hs:∀c,P c->Cb r c≠some s):GV (r++ [y]) (λc=>P c\/c=y.Page.Tx):=by
 have b:Cb (r++ [y]) y.Page.Tx=some s:=by unfold Cb;rw[M0,AB ⟨hk,rfl⟩];exact ht
 have a:∀c,P c->Cb (r++ [y]) c=Cb r c:=λc hc=>by unfold Cb;rw[M0,AA λhh=>hn (by rw[hh.2];exact hc)]
 refine⟨λc hc=>?_,λc c' hc hc' e=>?_⟩
 ·rcases hc with hc|rfl
  ·rw[a c hc];exact h.data c hc
  grind
 rcases hc with hc|rfl<;>rcases hc' with hc'|rfl
 ·exact h.dist c c' hc hc'<|by grind
 ·grind
 ·grind
 rfl
theorem J5.filter (h:J5 r) (p:Aq->Bool):J5 (r.filter p):=by
 refine⟨⟨by have:=Dr p r;have:=h.pages.len;omega,λy hy=>h.pages.text y (Bc.1 hy).1,λy hy=>h.pages.seq y (Bc.1 hy).1,λy hy=>h.pages.tx y (Bc.1 hy).1,λy hy=>h.pages.cnt y (Bc.1 hy).1,λy hy=>h.pages.part y (Bc.1 hy).1⟩,h.inc.filter _,⟨λy hy z hz=>h.mu.uniq y (Bc.1 hy).1 z (Bc.1 hz).1⟩⟩
theorem J5.add (h:J5 r) (hl:r.length<=1000000) (hb:Jo y.Page) (hs:CP r<=y.Page.Seq) (hm:y.Page.Kind=2->∀z∈r,z.Page.Kind=2->z.Page.Tx=y.Page.Tx->z.Page.Part≠y.Page.Part):J5 (r++ [y]):=by
 obtain⟨b1,b2,b3,b4,b5,b6,b7⟩:=hb
 have all:∀{P:Aq->Prop},(∀z∈r,P z)->P y->∀z∈r++ [y],P z:=λh1 h2 z hz=>by grind
 refine⟨⟨by simp;omega,all h.pages.text b6,all h.pages.seq b2,all h.pages.tx b3,all h.pages.cnt b4,all h.pages.part b5⟩,?_,⟨λu hu v hv k1 k2 e1 e2=>?_⟩⟩
 ·rw[AN];refine⟨h.inc,IV _ _,λu hu v hv=>?_⟩;rw[Br]at hv;rw[hv];have:=(NJ r).1 u hu;omega
 rw[Ap,Br]at hu hv
 rcases hu with hu|rfl<;>rcases hv with hv|rfl
 ·exact h.mu.uniq u hu v hv k1 k2 e1 e2
 ·grind
 ·grind
 rfl
theorem eC (h:CP r<=y.Page.Seq):CP (r++ [y])=y.Page.Seq+1:=by rw[Yb,AB h]
theorem J5.metas (h:J5 r) (ht:∀y∈r,y.Page.Kind=2->y.Page.Tx<t):∀(m:List Aq) (k:Nat),r.length+m.length<=1000000->(∀(i:Nat) y,m[i]?=some y->y.Page.Kind=2/\y.Page.Tx=t/\y.Page.Part=i/\y.Page.Seq=CP r+i/\Jo y.Page)->k<=m.length->J5 (r++m.take k)/\CP (r++m.take k)=CP r+k
 |m,0,_,_,_=>by simpa using h
 |m,k+1,hl,hm,hk=>by
  obtain⟨ih1,ih2⟩:=J5.metas h ht m k hl hm (by omega);have hx:m[k]?=some m[k]:=Ab (by omega);obtain⟨k1,k2,k3,k4,k5⟩:=hm k _ hx;rw[An (by omega),<-AE];refine⟨J5.add ih1 (by simp;omega) k5 (by rw[ih2,k4];omega) λ_ z hz a b=>?_,?_⟩
  ·rcases Ap.1 hz with hz|hz
   ·grind
   obtain⟨j,hj,rfl⟩:=A6 hz;rw[BK]at hj;rw[Ki];obtain⟨_,_,q3,_⟩:=hm j _ (Ab<|by omega);omega
  rw[eC (by rw[ih2,k4];omega),k4];omega
theorem tR (i:Int):∀(k:Int) (l:List Leaf),(Xn i k l).length<=l.length
 |_,[]=>Ax _
 |k,x::l=>by
  rw[Xn,Ak,A8];have:=tR i (k+1) l;have:(pg i k x).length<=1:=by
   unfold pg
   grind
  omega
theorem tS:∀(i:Int) (l:List Block),(K2 i l).length<=nl l
 |_,[]=>Ax _
 |i,b::l=>by
  rw[K2,Ak];have:=tS (i+1) l;have:=tR i 0 b.Leaves;unfold nl at*
  grind
theorem ADk (hf:B9 f) (h:SR (K2 0 f.Blocks) r):r.length<=40:=by
 have h1:=tS 0 f.Blocks;have h2:=hf.few;have h3:=h.2.len;omega
theorem LD:∀{ss:List AS} {ps:List Page} {i:Nat} {y:Aq},(Cg ss ps)[i]?=some y->ps[i]?=some y.Page
 |[],_,i,y,h=>by simp[Cg]at h
 |s::ss,[],i,y,h=>by simp[Cg]at h
 |s::ss,p::ps,0,y,h=>by
  simp only[Cg,List.zipWith_cons_cons,IW,Aj]at h;rw[<-h];rfl
 |s::ss,p::ps,i+1,y,h=>by
  simp only[Cg,List.zipWith_cons_cons,List.getElem?_cons_succ]at h⊢;exact LD h
theorem ZX (h:ss.length=ps.length):(Cg ss ps).length=ps.length:=by unfold Cg;grind
theorem Xw (ss:List AS) (ps:List Page) (k:Nat):Cg (ss.take k) (ps.take k)=(Cg ss ps).take k:=by unfold Cg;grind
theorem oN:∀(T:List ByteArray),(∀t∈T,(L t).length<=90)->(PJ T).length<=90*T.length
 |[],_=>by simp[PJ]
 |t::T,h=>by
  have:=oN T (λx hx=>h x<|by simp[hx]);have:=h t (by simp);simp only[PJ,Kj,Ak,A8]at*;omega
theorem fE {r1:List Aq} (h:J5 r1) (hl:r1.length<=1000) {a:List Ct} (d:1<=T.length) (e:T.length<=9) (c:∀t∈T,(L t).length<=90) (f:PJ T=Im a) (g:∀r∈a,GC r=true) (hm:∀(i:Nat) y,m[i]?=some y->(Cm (CP r1) (DH r1) T)[i]?=some y.Page) (j:m.length=T.length) (l:∀p∈Cm (CP r1) (DH r1) T,Jo p) (k:Nat) (hk:k<=T.length):
  J5 (r1++m.take k)/\(∀y∈m.take k,y.Page.Kind≠1)/\(k<T.length->Bg (r1++m.take k)=Bg r1)/\(k=T.length->∃q,Bg (r1++m.take k)=Bg r1++ [Tx.mk (DH r1) q a]):=by
 have n:∀(i:Nat) y,m[i]?=some y->∃t,T[i]?=some t/\y.Page=Page.mk 2 (CP r1+i) (DH r1) i T.length t:=by
  intro i y hy;have:=hm i y hy;unfold Cm at this
  grind
 have b:=YC r1;obtain⟨c1,_⟩:=J5.metas h b.1 m k (by omega) (λi y hy=>by grind) (by omega);have hN:gF (m.take k) (DH r1) T.length T:=by
  refine⟨by grind,⟨d,e⟩,rfl,λi y hy=>?_⟩
  grind
 obtain⟨g1,g2⟩:=rE r1 (λy hy=>(h.pages.tx y hy).1) b.1 b.2.1 hN;refine⟨c1,λy hy=>by rw[(hN.all hy).1];omega,λhh=>g1 (by grind),λhh=>g2 (by grind) a ?_⟩;rw[f];refine qH g ?_;have:=oN T c
 grind
structure IC (d:Ay) (r:List Aq):Prop where
 dev:H5 d r
 core:J5 r
 data:GV r (Ea (AR d.Store))
theorem IC.few (h:IC d r):r.length<=40:=ADk h.dev.fl h.dev.sr
theorem KP (hg:B9 g) (a:SR (K2 0 g.Blocks) r):∃d,C6 g=some (d,true)/\H5 d r/\d.Flash=g:=by
 obtain⟨d,r',h1,h2,h3⟩:=Vo hg;have:r'=r:=by
  have h4:=h2.sr;rw[h3]at h4;exact h4.uniq a
 grind
theorem TE (seq tx:Int) (T:List ByteArray):Hv seq (Cm seq tx T):=by
 have a:∀(l:List ByteArray) (i:Nat) (n:Int),n<=seq+i->Hv n (l.mapIdx λj t=>Page.mk 2 (seq+(i+j:Nat)) tx (i+j:Nat) T.length t):=by
  intro l
  induction l with
  |nil=>intro i n _;trivial
  |cons x l ih=>
   intro i n hn;rw[List.mapIdx_cons];refine⟨by simpa using hn,?_⟩;have:=ih (i+1) (seq+(i:Int)+1)<|by omega
   grind
 have:=a T 0 seq (by omega);unfold Cm;simpa using this
theorem rN (c:Int) (a:ByteArray) (tx:Int) (T:List ByteArray):Hv d.Seq (Da d c a++Cm (Jb d a) tx T):=by
 unfold Da Jb;by_cases e:L a=[]
 ·rw[AB e,AB e,A5];exact TE _ _ _
 rw[AA e,AA e];exact⟨Jd _,TE _ _ _⟩
theorem My (ss:List AS) (ps:List Page) (k:Nat):∀y∈(Cg ss ps).take k,y.Page∈ps:=by
 intro y hy;obtain⟨i,hi,rfl⟩:=A6<|List.mem_of_mem_take hy;exact Au<|LD<|Ab hi
def Fd (f:Flash) (n:Int):Prop:=∀b∈f.Blocks,b.Wear<=n
theorem sT {l:List Block} {n:Int} {x:Block} (h:∀y∈l,y.Wear<=n) (hx:x.Wear<=n):∀y∈si l b x,y.Wear<=n:=by
 intro y hy;by_cases e:0<=b
 ·obtain⟨c,rfl⟩:∃c:Nat,b=(c:Int):=⟨_,(AX e).symm⟩;rw[EU]at hy
  grind
 unfold si at hy
 grind
theorem dZ {s:AS} {n m:Int} (h:Fd f n) (hm:n<=m) (hs:s.Kind=1\/n+1<=m):Fd (Me f s) m:=by
 have h0:∀y∈f.Blocks,y.Wear<=m:=λy hy=>by have:=h y hy;omega
 unfold Me Vx UJ Fd;by_cases e:s.Kind=1
 ·rw[AB e]
  cases hg:gi f.Blocks s.Block with
  |none=>exact h0
  |some x=>exact sT h0<|h0 x<|Au (CM hg).2
 rw[AA e]
 cases hg:gi f.Blocks s.Block with
 |none=>exact h0
 |some x=>exact sT h0 (by have:=h x<|Au (CM hg).2;grind)
theorem Uz {n:Int}:∀{f:Flash} {ss:List AS} {ps:List Page} {g:Flash},IZ f ss ps g->Fd f n->Fd g n
 |f,[],[],g,h,hw=>by rw[show g=f from h];exact hw
 |f,s::ss,p::ps,g,h,hw=>Uz h.2.2.2 (dZ hw (Jd _) (.inl h.1))
 |f,[],q::ps,g,h,_=>h.elim
 |f,s::ss,[],g,h,_=>h.elim
theorem Rf:∀{f:Flash} {ss:List AS} {ps:List Page} {g:Flash},IZ f ss ps g->∀s∈ss,s.Kind=1
 |f,[],[],g,h,s,hs=>by cases hs
 |f,s::ss,p::ps,g,h,x,hs=>by
  rcases DE.1 hs with rfl|hs
  ·exact h.1
  exact Rf h.2.2.2 x hs
 |f,[],q::ps,g,h,_,_=>h.elim
 |f,s::ss,[],g,h,_,_=>h.elim
def Y7 (f g:Flash):Prop:=∀n,Fd f n->Fd g n
theorem Wd (h:IC d r) {o:List Ct} (x:∀r∈o,GC r=true) {a:ByteArray} {b:Ct} {steps:List AS} (z:1<=T.length) (h0:T.length<=9) (h1:PJ T=Im o) (v:∀t∈T,(L t).length<=90) (hp:IZ d.Flash steps (Da d b.Chunk a++Cm (Jb d a) d.Tx T) g) (l:∀p∈Da d b.Chunk a++Cm (Jb d a) d.Tx T,Jo p) (h2:L a≠ []->¬Ea (AR d.Store) b.Chunk) (k:Nat) (hk:k<=steps.length):
  ∃m d' r',Steps d.Flash (steps.take k) m/\B9 m/\C6 m=some (d',true)/\H5 d' r'/\d'.Flash=m/\r'=r++(Cg steps (Da d b.Chunk a++Cm (Jb d a) d.Tx T)).take k/\Y7 d.Flash m/\J5 r'/\GV r' (Ea (AR d.Store))/\
   (k<steps.length->Bg r'=Bg r)/\(k=steps.length->(∃q,Bg r'=Bg r++ [Tx.mk d.Tx q o])/\∀s,Tn a=some s->L a≠ []->(∀c,Ea (AR d.Store) c->Cb r c≠some s)->GV r' (λc=>Ea (AR d.Store) c\/c=b.Chunk)):=by
 obtain⟨a8,f⟩:=Fu hp;obtain⟨m,hm⟩:=U5 k hp;obtain⟨h3,_⟩:=Fu hm;have h4:=Yz h.dev.fl h3;have a6:=h.few
 have h5:∀y∈r,y.Page.Seq<d.Seq:=λy hy=>by rw[h.dev.seq];exact(NJ r).1 y hy
 have h6:=rN (d:=d) b.Chunk a d.Tx T;have ascT:∀(ps:List Page) (n:Int) (k:Nat),Hv n ps->Hv n (ps.take k):=by
  intro ps
  induction ps with
  |nil=>grind
  |cons p ps ih=>
   intro n k ha
   cases k with
   |zero=>trivial
   |succ k=>exact⟨ha.1,ih _ k ha.2⟩
 have h7:=bE h.dev.fl h.dev.sr hm h5<|ascT _ _ k h6;rw[Xw]at h7;obtain⟨d',u1,u2,u3⟩:=KP h4 h7;refine⟨m,d',r++(Cg steps<|Da d b.Chunk a++Cm (Jb d a) d.Tx T).take k,h3,h4,u1,u2,u3,rfl,λ_=>Uz hm,?_⟩;have w:(Cm (Jb d a) d.Tx T).length=T.length:=by unfold Cm;grind
 have u:=ZX f;by_cases e:L a=[]
 ·
  have e1:Da d b.Chunk a=[]:=by unfold Da;rw[AB e]
  have e2:Jb d a=d.Seq:=by unfold Jb;rw[AB e]
  rw[e1,e2,A5]at u f l⊢;rw[e2]at w;rw[h.dev.seq,h.dev.tx]at u f l w⊢;obtain⟨a1,a2,a3,a4⟩:=fE h.core (by omega) z h0 v h1 x (m:=Cg steps<|Cm (CP r) (DH r) T) (λi y hy=>LD hy) (by omega) l k (by omega);exact⟨a1,h.data.metas a2,λhh=>a3 (by omega),λhh=>⟨a4 (by omega),λs _ h8=>absurd e h8⟩⟩
 have e1:Da d b.Chunk a=[Page.mk 1 d.Seq b.Chunk 0 1 a]:=by unfold Da;rw[AA e]
 have e2:Jb d a=d.Seq+1:=by unfold Jb;rw[AA e]
 rw[e1,e2]at u f l⊢;rw[e2]at w;rw[Fo]at u f l⊢;rw[A8]at f u
 match hsteps:steps,f with
 |[],f=>simp at f
 |s0::ss,f=>
  have ef:Cg (s0::ss) (Page.mk 1 d.Seq b.Chunk 0 1 a::Cm (d.Seq+1) d.Tx T)=Aq.mk s0.Block s0.Leaf (Page.mk 1 d.Seq b.Chunk 0 1 a)::Cg ss (Cm (d.Seq+1) d.Tx T):=rfl;rw[ef]
  cases k with
  |zero=>
   rw[KY,A7];exact⟨h.core,h.data,λ_=>rfl,λhh=>by simp at hh⟩
  |succ k=>
   rw[MF];generalize h9:Aq.mk s0.Block s0.Leaf (Page.mk 1 d.Seq b.Chunk 0 1 a)=y0;have j:y0.Page=Page.mk 1 d.Seq b.Chunk 0 1 a:=by rw[<-h9]
   have c1:J5 (r++ [y0]):=J5.add h.core (by omega) (by grind) (by rw[j,h.dev.seq];exact Jd _) (λhh=>by grind);have g1:Bg (r++ [y0])=Bg r:=Xv r (by rw[j];simp);have s1:CP (r++ [y0])=d.Seq+1:=by rw[eC (by rw[j,h.dev.seq];exact Jd _),j]
   have t1:DH (r++ [y0])=d.Tx:=by rw[UO,AA (by rw[j];simp),h.dev.tx]
   have a7:∀p∈Cm (d.Seq+1) d.Tx T,Jo p:=λp hp=>l p<|by simp[hp]
   have a0:(Cg ss<|Cm (d.Seq+1) d.Tx T).length=T.length:=by grind
   rw[List.append_cons];obtain⟨a1,a2,a3,a4⟩:=fE c1 (by simp;omega) z h0 v h1 x (m:=Cg ss<|Cm (d.Seq+1) d.Tx T) (by rw[s1,t1];exact λi y hy=>LD hy) a0 (by grind) k (by omega);have dz:GV (r++ [y0]) (Ea<|AR d.Store):=pH h.data (by rw[j];exact h2 e);rw[g1,t1]at a4;rw[g1]at a3;have a9:ss.length=T.length:=by simp at f;omega
   refine⟨a1,dz.metas a2,λhh=>a3 (by simp at hh;omega),λhh=>⟨a4 (by simp at hh;omega),λs hs _ a5=>?_⟩⟩;have:=wR h.data (y:=y0) (s:=s) (by rw[j]) (by rw[j];exact h2 e) (by rw[j];exact hs) a5;rw[j]at this;exact this.metas a2
theorem kF (h:C1 s):QZ s.Arena:=by unfold QZ;have:=h.few;omega
theorem zP (h:C1 s) (x:Int):x∈Nl s s.Vols.length↔∃p∈AR s,x∈p.2:=by
 unfold Nl AR;rw[DK];simp only[List.mem_flatten,A9]
 have a:∀v∈s.Vols,(J9 s.Arena v.Root).getD []=Ff s.Arena.Knots v.Root:=λv hv=>by
  rw[NQ _ (by have:=h.few;omega) h.ar<|h.root _<|A9.2 ⟨v,hv,rfl⟩];rfl
 grind
theorem Hm (h:C1 s):∃l,FC s=some l/\asc l/\(∀x,x∈l↔Ea (AR s) x)/\l.length<=16777216:=by
 have:=h.len;obtain⟨l,h1,h2,h3⟩:=Xj s (by omega)<|kF h;refine⟨l,h1,h2.1,λx=>?_,h3⟩;rw[h2.2 x,zP h];unfold Ea;exact And.comm
theorem Yj (h:C1 s) (hc:Ea (AR s) c):0<c/\c<s.Next:=by
 obtain⟨h0,p,hp,hx⟩:=hc;unfold AR at hp;obtain⟨v,hv,rfl⟩:=A9.1 hp;exact⟨h0,h.lt _ (A9.2 ⟨v,hv,rfl⟩) c hx⟩
def Cy (r:List Aq) (live:List Int) (a:Int):List Bool:=live.foldl (cL r)<|r.map<|Dn a
theorem JW (r:List Aq) (live:List Int) (a:Int):(Cy r live a).length=r.length:=by unfold Cy;rw[ZY,Bm]
theorem P2 (r:List Aq) (live:List Int) (a:Int) (hy:r[j]?=some y):(Cy r live a)[j]?=some (Dn a y||live.any (λc=>Pq c r r.length==some j)):=by
 unfold Cy;rw[Zy,Ce,hy];rfl
theorem AA9 (h:Pq c r r.length=some j):K4 r c=r[j]? :=by
 rw[Zv<|Pp c r r.length<|Ax _,h];rfl
theorem ABz (h:K4 r c=some y):∃j,Pq c r r.length=some j/\r[j]?=some y:=by
 have:=Zv<|Pp c r r.length<|Ax _;rw[h]at this
 cases ht:Pq c r r.length with
 |none=>grind
 |some j=>grind
theorem uN {p:Nat->Bool} (h:cn n p=0):∀j,j<n->p j=false:=by
 intro j hj;unfold cn at h;have:=List.length_eq_zero_iff.1 h;rw[Bk]at this
 grind
theorem ABq {live:List Int} {a b:Int} (h:cn r.length (λj=>(Cy r live a)[j]?.getD false&&bk r b j)=0):∀y∈r,y.Block=b->(y.Page.Kind=2->y.Page.Tx<a)/\∀c∈live,K4 r c≠some y:=by
 intro y hy hb;obtain⟨j,hj,rfl⟩:=A6 hy;have hx:=Ab hj;have h1:=uN h j hj;rw[P2 r live a hx]at h1;have h2:bk r b j=true:=by unfold bk;grind
 rw[h2,Bool.and_true,AY,Bool.or_eq_false_iff]at h1;refine⟨λhk=>?_,λc hc hn=>?_⟩
 ·have:=h1.1;unfold Dn at this
  grind
 
 obtain⟨i,i1,i2⟩:=ABz hn;have h3:=h1.2;rw[UG]at h3;have h4:=h3 c hc;rw[i1]at h4;by_cases e:i=j
 ·grind
 
 have hi:=(Af.1 i2).1;have h5:=uN h i hi;rw[P2 r live a i2]at h5;have h6:bk r b i=true:=by unfold bk;grind
 grind
theorem Zi (h:H5 d r):∃l,II d=some l/\l.length<=10/\∀b∈l,∃x,gi d.Flash.Blocks b=some x/\x.Bad=false/\∀y∈r,y.Block=b->(y.Page.Kind=2->y.Page.Tx<d.Base)/\∀c,Ea (AR d.Store) c->K4 r c≠some y:=by
 obtain⟨live,l1,l2,l3,l4⟩:=Hm h.st;have hn:=h.fl.n;unfold II;rw[h.scan.s,l1];simp only[Aa];rw[Nm r live d.Base h.scan.len l4];simp only[Aa];have e:live.foldl (cL r) (r.map<|Dn d.Base)=Cy r live d.Base:=rfl;rw[e];obtain⟨b,q1,q2⟩:=AJ (body:=λs:List Int×Int=>Ef d r (Cy r live d.Base) s.1 s.2) (λ(o:List Int) i=>(o,i)) d.Flash.Blocks.length
  (λi o=>o.length<=i/\∀b∈o,∃x,gi d.Flash.Blocks b=some x/\x.Bad=false/\∀y∈r,y.Block=b->(y.Page.Kind=2->y.Page.Tx<d.Base)/\∀c,Ea (AR d.Store) c->K4 r c≠some y)
  (λo=>o.length<=10/\∀b∈o,∃x,gi d.Flash.Blocks b=some x/\x.Bad=false/\∀y∈r,y.Block=b->(y.Page.Kind=2->y.Page.Tx<d.Base)/\∀c,Ea (AR d.Store) c->K4 r c≠some y)
  (λo i hi ho=>by
   have hx:=Ab hi;have hP:=h.fl.blk _<|Az hi;obtain⟨nbl,_,bl⟩:=oR d.Flash.Blocks[i] (by rw[hP.four];omega);simp only[Ef,Eh hi,Ar,hx,Aa];rw[bl,Zs r _ (i:Int) h.scan.len<|JW _ _ _,ad1];simp only[Aa];refine .inl ?_
   cases a:d.Flash.Blocks[i].Bad with
   |true=>grind
   |false=>
    simp only[AM,Ae]
    cases g:(!(!decide (nbl<ln d.Flash.Blocks[i].Leaves)))with
    |false=>grind
    |true=>
     simp only[Ae,Aa]
     cases hz:((((cn r.length (λj=>(Cy r live d.Base)[j]?.getD false&&bk r (i:Int) j):Nat)):Int)==0)with
     |false=>grind
     |true=>
      simp only[Ae];have:=ho.1;rw[BC (by simp;omega)];refine⟨_,rfl,by simp;omega,λb hb=>?_⟩;rw[Ap,Br]at hb
      rcases hb with hb|rfl
      ·exact ho.2 b hb
      refine⟨_,by rw[Ar];exact hx,a,λy hy f=>?_⟩;have hz':cn r.length (λj=>(Cy r live d.Base)[j]?.getD false&&bk r (i:Int) j)=0:=by grind
      obtain⟨a1,a2⟩:=ABq hz' y hy f
      grind)
  (λo ho=>⟨o,by simp only[Ef,DN],by omega,ho.2⟩) (s:=[]) ⟨by simp,λb hb=>by cases hb⟩
 grind
theorem Hi (h:H5 d r) (h':H5 d' r') (e:CO (Bg r')=CO (Bg r)):AR d'.Store=AR d.Store/\d'.Store.Next=d.Store.Next/\d'.Base=d.Base:=by
 have h1:=h'.ab;rw[e,<-h.ab]at h1
 injection h1 with h1 h2
 exact⟨h1,h2,by rw[h'.base,h.base,e]⟩
theorem AA4 (h:IC d r) (hb:∀y∈r,y.Block=b->(y.Page.Kind=2->y.Page.Tx<d.Base)/\∀c,Ea (AR d.Store) c->K4 r c≠some y) (hg:B9 g) (hp:K2 0 g.Blocks=(K2 0 d.Flash.Blocks).filter λy=>y.Block !=b):
  ∃d',C6 g=some (d',true)/\d'.Flash=g/\IC d' (r.filter λy=>y.Block !=b)/\AR d'.Store=AR d.Store/\d'.Store.Next=d.Store.Next/\d'.Base=d.Base/\∀c,Ea (AR d.Store) c->Cb (r.filter λy=>y.Block !=b) c=Cb r c:=by
 have a:SR (K2 0 g.Blocks) (r.filter λy=>y.Block !=b):=by rw[hp];exact h.dev.sr.filter _
 obtain⟨d',u1,u2,u3⟩:=KP hg a
 have hs:=gO r h.core.pages h.core.mu (λy=>y.Block !=b) (λy hy hk ht=>by
  have:y.Block≠b:=λe=>by
   have:=(hb y hy e).1 hk;rw[h.dev.base]at this;omega
  simpa using this)
 obtain⟨e1,e2,e3⟩:=Hi h.dev u2 hs
 have ht:∀c,Ea (AR d.Store) c->Cb (r.filter λy=>y.Block !=b) c=Cb r c:=λc hc=>by
  obtain⟨s,f⟩:=h.data.data c hc;unfold Cb at f⊢
  cases hn:K4 r c with
  |none=>grind
  |some y=>
   have hy:=(V3 hn).1;have:K4 (r.filter λy=>y.Block !=b) c=some y:=nC _ hn (by grind);rw[this]
 refine⟨d',u1,u3,⟨u2,h.core.filter _,?_⟩,e1,e2,e3,ht⟩;rw[e1];exact h.data.congr ht
end Go.TI
