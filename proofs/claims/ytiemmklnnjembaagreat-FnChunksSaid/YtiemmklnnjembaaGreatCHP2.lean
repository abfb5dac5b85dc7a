/- Chunks of a drawn device. No condition. -/
import Derived.Test.YtiemmklnnjembaaGreatCHP1
namespace Go.TI
open Go
theorem zO {l:List Leaf} (h:∀x∈l,x.Is=0):nb l=l.length:=by
 induction l with
 |nil=>rfl
 |cons x l ih=>
  have h1:=ih (fun y hy=>h y (by simp [hy]));unfold nb at h1⊢;rw [BN,NG,h1,UW,Ay (by simpa using h x (by simp)),Ax];omega
theorem ABm {l:List Leaf} (h:∀x∈l,x.Is≠0):nb l=0:=by
 induction l with
 |nil=>rfl
 |cons x l ih=>
  have h1:=ih (fun y hy=>h y (by simp [hy]));unfold nb at h1⊢;rw [BN,NG,h1,UW,A0 (by simpa using h x (by simp))]
theorem ACD (l m:List Leaf):nb (l++m)=nb l+nb m:=by unfold nb;rw [Cv,List.sum_append]
theorem Kk.nb {b:Block} (h:Kk b):nb b.Leaves=4-KN b.Leaves:=by
 have a:=qM b.Leaves;have h4:=h.four;have e:Go.TI.nb b.Leaves=Go.TI.nb (b.Leaves.take (KN b.Leaves))+Go.TI.nb (b.Leaves.drop (KN b.Leaves)):=by rw [<-ACD,Bt]
 rw [e,ABm (l:=b.Leaves.take (KN b.Leaves)),zO (l:=b.Leaves.drop (KN b.Leaves)),B5,h4]
 ·omega
 ·intro x hx;obtain⟨k,hk,rfl⟩:=AF hx;rw [B5]at hk;rw [Rh];exact h.blank (k:=KN b.Leaves+k) (by omega) (Ab _)
 ·intro x hx;obtain⟨k,hk,rfl⟩:=AF hx;rw [AC]at hk;rw [Et];exact(Ns b.Leaves).1 k _ (by omega) (Ab _)
def QQ (f:Flash) (b l:Int):Prop:=∃x,gi f.Blocks b=some x/\x.Bad=false/\l=(KN x.Leaves:Int)/\KN x.Leaves<4
theorem Y1 {f:Flash} (h:Cg f):∃v:Int,M7 f=some v/\((v= -1/\∀b∈f.Blocks,b.Bad=false->KN b.Leaves=0\/KN b.Leaves=4)\/∃x,gi f.Blocks v=some x/\x.Bad=false/\KN x.Leaves<4):=by
 unfold M7;have hn:=h.n;obtain⟨b,h1,h3⟩:=Br (body:=fun s:Int=>FR f s) (fun(_:Unit) i=>i) f.Blocks.length (fun i _=>∀(j:Nat) b,j<i->f.Blocks[j]?=some b->b.Bad=false->KN b.Leaves=0\/KN b.Leaves=4) (fun b=>(b= .inl ()/\∀b∈f.Blocks,b.Bad=false->KN b.Leaves=0\/KN b.Leaves=4)\/∃i:Nat,∃x,b= .inr (i:Int)/\f.Blocks[i]?=some x/\x.Bad=false/\KN x.Leaves<4)
  (fun _ i hi hs=>by
   have hg:f.Blocks[i]?=some f.Blocks[i]:=Ab hi;have hP:=h.blk _ (AK hi);have c:=hP.nb;have h4:=hP.four;have d:=qM f.Blocks[i].Leaves;simp only [FR,AQ,Ac hi,Af];rw [qG f i hg (by omega)];simp only [Aa,AH,hg];rw [ad1 (by omega)]
   cases a:f.Blocks[i].Bad with
   |true=>
    refine .inl ⟨(),rfl,fun j b hj hb h0=>?_⟩;by_cases e:j=i
    ·subst e;rw [hg]at hb
     injection hb with hb
     rw [<-hb,a]at h0;cases h0
    ·exact hs j b (by omega) hb h0
   |false=>
    simp only [Be,Af];by_cases e:0<KN f.Blocks[i].Leaves/\KN f.Blocks[i].Leaves<4
    ·rw [Ac (by omega),Ac (by omega)];exact .inr ⟨_,rfl,.inr ⟨i,_,rfl,hg,a,e.2⟩⟩
    ·have:(bif decide (((nb f.Blocks[i].Leaves:Nat):Int)>0)then(some (decide (((f.Blocks[i].Leaves.length-nb f.Blocks[i].Leaves:Nat):Int)>0)))else(some false):Option Bool)=some false:=by
      by_cases e2:nb f.Blocks[i].Leaves=0
      ·rw [Ae (by omega)];rfl
      ·rw [Ac (by omega),Ae (by omega)];rfl
     rw [this];refine .inl ⟨(),rfl,fun j b hj hb h0=>?_⟩;by_cases e:j=i
     ·subst e;rw [hg]at hb
      injection hb with hb
      rw [<-hb];omega
     ·exact hs j b (by omega) hb h0)
  (fun _ hs=>⟨_,by simp only [FR,AQ,Aw,A5,Ad],.inl ⟨rfl,fun b hb=>by
   obtain⟨j,hj,rfl⟩:=AF hb
   exact hs j _ hj (Ab hj)⟩⟩) (s:=()) (fun j b hj=>by omega)
 have h1':Az (fun s:Int=>FR f s) 0=some b:=h1;rw [h1']
 rcases h3 with⟨rfl,h3⟩|⟨i,x,rfl,h4,h5,h6⟩
 ·exact⟨-1,rfl,.inl ⟨rfl,h3⟩⟩
 ·exact⟨(i:Int),rfl,.inr ⟨x,by rw [AH];exact h4,h5,h6⟩⟩
theorem kJ {f:Flash} (h:Cg f):∃b l:Int,∃ok:Bool,Nm f=some (b,l,ok)/\(ok=true->QQ f b l)/\(ok=false->∀b∈f.Blocks,b.Bad=false->KN b.Leaves=4):=by
 have hn:=h.n;obtain⟨o,o1,o2⟩:=Y1 h;obtain⟨e1,_⟩:=Zy f h.cap;unfold Nm;rw [Ql h,o1,e1];simp only [Aa,Ar,Ad]
 rcases o2 with⟨rfl,o2⟩|⟨x,o2,o3,o4⟩
 ·rw [Ae (by omega)];simp only [Ad];have a:∀y∈TL f,QQ f y 0:=by
   intro y hy;unfold TL at hy;obtain⟨i,hi,rfl⟩:=AL.1 hy;obtain⟨c,d⟩:=AM.1 hi;rw [Gh]at c;unfold MW at d;rw [Ab c]at d;simp only [An,Dm,AA]at d;have hP:=h.blk _ (AK c);have:=hP.nb;have:=hP.four;exact⟨_,by rw [AH];exact Ab c,d.1,by omega,by omega⟩
  cases j:TL f with
  |nil=>
   refine⟨0,0,false,rfl,by simp,fun _ b hb g=>?_⟩
   rcases o2 b hb g with e|e
   ·obtain⟨i,hi,rfl⟩:=AF hb;have hm:(i:Int)∈TL f:=by
     unfold TL;refine AL.2 ⟨i,AM.2 ⟨Gh.2 hi,?_⟩,rfl⟩;unfold MW;rw [Ab hi];have hP:=h.blk _ (AK hi);have:=hP.nb;have:=hP.four;simp only [g,Be,CU,AA];omega
    rw [j]at hm;cases hm
   ·exact e
  |cons x l=>
   rw [j]at a;have t:(x::l).length<=10:=by
    rw [<-j];unfold TL;rw [Bu];have:=BV (MW f) (List.range f.Blocks.length);rw [Ch]at this;omega
   have m:(ln (x::l)==0)=false:=by simp [ln];omega
   rw [m];simp only [Ad];have p:gi (x::l) 0=some x:=AH (i:=0);rw [p];simp only [Aa]
   have k:∀y,QQ f y 0->∃z,gi f.Blocks y=some z:=fun y ⟨z,hz,_⟩=>⟨z,hz⟩
   obtain⟨w,w1,w2⟩:=RM (body:=fun s:Int×Int=>Jk f (x::l) s.1 s.2) (fun(b:Int) i=>(b,i)) (x::l).length (fun _ b=>QQ f b 0) (fun b=>QQ f b 0)
    (fun b i hi hb=>by
     have hg:(x::l)[i]?=some (x::l)[i]:=Ab hi;have hp:=a _ (AK hi);obtain⟨z1,q⟩:=k _ hp;obtain⟨z2,r⟩:=k _ hb;simp only [Jk,AQ,Ac hi,Af,AH,hg,Aa,q,r];rw [ad1 (by omega)]
     cases decide (z1.Wear<z2.Wear)with
     |true=>exact .inl ⟨_,rfl,hp⟩
     |false=>exact .inl ⟨_,rfl,hb⟩)
    (fun b hb=>⟨b,by simp only [Jk,AQ,Aw,A5,Ad],hb⟩) l.length 1 x (by simp;omega) (a x (by simp))
   have e1':((1:Nat):Int)=1:=rfl;rw [e1']at w1;rw [w1];exact⟨w,0,true,rfl,fun _=>w2,by simp⟩
 ·obtain⟨k1,k2⟩:=DJ o2;rw [Ac (by omega),Af,o2];simp only [Aa];rw [LU x (h.blk x (AI k2)).four];exact⟨_,_,true,rfl,fun _=>⟨x,o2,o3,rfl,o4⟩,by simp⟩
def AAw (f:Flash) (b:Int):Prop:=∃x,gi f.Blocks b=some x/\x.Bad=false/\x.Wear≠1000000000
def Vl (f:Flash) (b:Int):Flash:=Flash.mk (match gi f.Blocks b with
 |some x=>si f.Blocks b (Block.mk false (x.Wear+1) O9)
 |none=>f.Blocks)
theorem yK {f:Flash} (h:Cg f) (b:Int):(AAw f b/\VU f b=some (Vl f b,true))\/(¬AAw f b/\VU f b=some (f,false)):=by
 have hn:=h.n;unfold VU;rw [Gz f h.cap,Ql h];simp only [Aa,Ar,Ad];rw [Cq,C1 (by omega) (by omega),El];simp only [Aa];by_cases hb:0<=b/\b<=(f.Blocks.length:Int)-1
 ·rw [Ac hb];simp only [Ar,Ad];have hg:=Pz (l:=f.Blocks) hb.1 (by omega);have hm:f.Blocks[b.toNat]'(by omega)∈f.Blocks:=AK _;generalize c:f.Blocks[b.toNat]'(by omega)=x at hg hm;have hP:=h.blk x hm;rw [hg];simp only [Aa]
  cases a:x.Bad with
  |true=>
   refine .inr ⟨?_,rfl⟩;rintro⟨z,hz,h2,_⟩;rw [hg]at hz
   injection hz with hz
   rw [<-hz,a]at h2;cases h2
  |false=>
   simp only [Ad,Aa];by_cases hw:x.Wear=1000000000
   ·rw [show(x.Wear==1000000000)=true by simpa using hw];refine .inr ⟨?_,rfl⟩;rintro⟨z,hz,_,h3⟩;rw [hg]at hz
    injection hz with hz
    rw [<-hz]at h3;exact h3 hw
   ·rw [show(x.Wear==1000000000)=false by simpa using hw];simp only [Ad];rw [aD];simp only [Aa];have:=hP.wear;rw [C5 (by omega) (by omega)];refine .inl ⟨⟨x,hg,a,hw⟩,?_⟩;unfold Vl;rw [hg]
 ·rw [Ae hb];refine .inr ⟨?_,rfl⟩;rintro⟨z,hz,_⟩;obtain⟨k1,k2⟩:=DJ hz;have:=(Ah.1 k2).1;omega
theorem nG {bad:Bool} {w:Int} (h:0<=w/\w<=1000000000):Kk (Block.mk bad w O9):=by
 refine⟨rfl,h,fun x hx=> .inl ?_,fun k x y hx hy _=>?_⟩
 ·have:=DN hx;rw [this];exact⟨rfl,rfl⟩
 ·have:=DN (AI hy);rw [this]
theorem WC (i:Int):∀(k:Int) (l:List Leaf),(∀x∈l,x.Is≠1)->TC i k l=[]
 |k,[],_=>rfl
 |k,x::l,h=>by
  rw [TC,WC i (k+1) l (fun y hy=>h y (by simp [hy]))];unfold pg;rw [A0 (h x (by simp))];rfl
theorem Tm {f:Flash} (h:Cg f) {b:Int} (hc:AAw f b):Cg (Vl f b)/\Lq 0 (Vl f b).Blocks=(Lq 0 f.Blocks).filter fun y=>y.Block !=b:=by
 obtain⟨x,h1,h2,h3⟩:=hc;obtain⟨k1,k2⟩:=DJ h1;obtain⟨c,rfl⟩:∃c:Nat,b=(c:Int):=⟨_,(B4 k1).symm⟩;rw [B6]at k2;have hP:=h.blk x (AI k2);have hw:=hP.wear;unfold Vl;rw [h1];simp only [Ha];exact⟨P3 h (nG ⟨by omega,by omega⟩),lJ k2 (WC _ _ _ fun y hy=>by rw [DN hy];simp)⟩
def QC (f:Flash) (s:BD):Prop:=(s.Kind=1/\mB f s.Block s.Leaf s.Text)\/(s.Kind=2/\AAw f s.Block)
def LJ (f:Flash) (s:BD):Flash:=if s.Kind=1 then prog f s.Block s.Leaf (Leaf.mk 1 s.Text)else Vl f s.Block
theorem QJ {f:Flash} (h:Cg f) (s:BD):(QC f s/\Nn f s=some (LJ f s,true))\/(¬QC f s/\Nn f s=some (f,false)):=by
 unfold Nn;by_cases k1:s.Kind=1
 ·rw [show(s.Kind==1)=true by simpa using k1];simp only [Af]
  rcases kD h s.Block s.Leaf s.Text with⟨h1,h2⟩|⟨h1,h2⟩
  ·rw [h2];exact .inl ⟨.inl ⟨k1,h1⟩,by unfold LJ;rw [Ay k1];rfl⟩
  ·rw [h2];exact .inr ⟨by rintro(hh|hh);exact h1 hh.2;omega,rfl⟩
 ·rw [show(s.Kind==1)=false by simpa using k1];simp only [Ad];by_cases k2:s.Kind=2
  ·rw [show(s.Kind==2)=true by simpa using k2];simp only [Af]
   rcases yK h s.Block with⟨h1,h2⟩|⟨h1,h2⟩
   ·rw [h2];exact .inl ⟨.inr ⟨k2,h1⟩,by unfold LJ;rw [A0 k1];rfl⟩
   ·rw [h2];exact .inr ⟨by rintro(hh|hh);omega;exact h1 hh.2,rfl⟩
  ·rw [show(s.Kind==2)=false by simpa using k2];simp only [Ad];rw [Gz f h.cap];exact .inr ⟨by rintro(hh|hh)<;>omega,rfl⟩
theorem AA6 {f:Flash} (h:Cg f) {s:BD} (hs:QC f s):Cg (LJ f s):=by
 unfold LJ
 rcases hs with⟨h1,h2⟩|⟨h1,h2⟩
 ·rw [Ay h1];exact(QP h h2).1
 ·rw [A0 (by omega)];exact(Tm h h2).1
theorem V6 {f:Flash} (h:Cg f) (steps:List BD) (hs:steps.length<=1000) (p:Page) {t:ByteArray} {ok:Bool} (ht:EK p=some (t,ok)) (hl:ok=true->1<=(L t).length/\(L t).length<=120):
  (ok=true/\∃b l,QQ f b l/\Nm f=some (b,l,true)/\He f steps p=some (prog f b l (Leaf.mk 1 t),steps++ [BD.mk 1 b l t],true))\/He f steps p=some (f,steps,false):=by
 obtain⟨b,l,room,p1,p2,_⟩:=kJ h;unfold He;rw [ht,p1];simp only [Aa]
 cases ok with
 |false=>exact .inr rfl
 |true=>
  simp only [Ar,Ad,Aa]
  cases room with
  |false=>exact .inr rfl
  |true=>
   simp only [Ar,Ad];have hp:=p2 rfl;have hl':=hl rfl;have hm:mB f b l t:=by
    obtain⟨x,a1,a2,a3,a4⟩:=hp;exact⟨x,a1,a2,a3,a4,hl'⟩
   rcases QJ h (BD.mk 1 b l t)with⟨h1,h2⟩|⟨h1,h2⟩
   ·rw [h2];simp only [Aa];rw [CF (by simp;omega)];refine .inl ⟨trivial,b,l,hp,rfl,?_⟩;unfold LJ;rfl
   ·exact absurd (.inl ⟨rfl,hm⟩) h1
end Go.TI
namespace Go.TI
open Go
theorem nJ (u:ByteArray) (hu:(L u).length<=20000) (a:Nat) (ha:a<=(L u).length):∃n c,Ej (Ek.mk u (a:Int) false)=some (n,c)/\c.text_=u/\(c.bad_=true\/c.bad_=false/\∃b:Nat,c.at_=b/\a<b/\b<=(L u).length)/\(c.bad_=true->c.at_=a):=by
 obtain⟨r,h1,_,h2⟩:=Ke u (a:Int) (by omega) ⟨by omega,by omega⟩;rw [IH u _ hu h1]
 rcases h2 with⟨e1,e2,e3⟩|⟨e1,a',b,n,k1,k2,k3,k4,k5,_⟩
 ·rw [e1];exact⟨_,_,rfl,rfl,.inl rfl,fun _=>rfl⟩
 ·rw [e1];refine⟨_,_,rfl,rfl,.inr ⟨rfl,b,k2,by omega,k5⟩,fun hh=>by cases hh⟩
theorem tG (t:ByteArray) (ht:(L t).length<=20000):∀(n a:Nat) (out:List Df),(L t).length-a<=n->a<=(L t).length->out.length<=a->∃r,Az (fun s:List Df×ByteArray×Int×Bool=>Ef t s.1 s.2.1 s.2.2.1 s.2.2.2) (out,t,(a:Int),false)=some r/\(r= .inr ([],false)\/∃l:List Df,r= .inl l/\l.length<=(L t).length)
 |n,a,out,hn,ha,ho=>by
  rw [AB];simp only [Ef];rw [BK];by_cases b:a<(L t).length
  ·rw [Ac (by omega:(a:Int)<((L t).length:Int))];simp only [Af,Aa,Be];rw [Fc t b,ad1 (by omega)];simp only [Aa];obtain⟨n1,c1,v1,t1,h1,z1⟩:=nJ t ht (a+1) (by omega);rw [v1];simp only [Aa]
   rcases h1 with e1|⟨e1,b1,k1,k2,k3⟩
   ·
    have hz:=z1 e1;obtain⟨c1t,c1a,c1b⟩:=c1;simp only at t1 e1 hz;subst t1 e1 hz;rw [Gv _ _ ht ⟨by omega,by omega⟩];exact⟨_,rfl,.inl rfl⟩
   ·obtain⟨c1t,c1a,c1b⟩:=c1;simp only at t1 e1 k1;subst t1 e1 k1;obtain⟨n2,c2,v2,t2,h2,z2⟩:=nJ c1t ht b1 k3;rw [v2];simp only [Aa]
    rcases h2 with e2|⟨e2,b2,m1,m2,m3⟩
    ·rw [e2];exact⟨_,rfl,.inl rfl⟩
    ·rw [e2];simp only [Ad];rw [PO];simp only [Aa]
     cases HB _ with
     |false=>exact⟨_,rfl,.inl rfl⟩
     |true=>
      simp only [Ar,Ad];rw [CF (by simp;omega),t2,m1];simp only [Aa]
      match n,hn with
      |n+1,hn=>exact tG c1t ht n b2 _ (by omega) m3 (by simp;omega)
      |0,hn=>omega
  ·rw [Ae (by omega)];exact⟨_,rfl,.inr ⟨_,rfl,by omega⟩⟩
noncomputable def ZS (t:ByteArray):Option (List Df):=match JM t with
 |some (l,true)=>some l
 |_=>none
theorem r9 (t:ByteArray) (ht:(L t).length<=20000):∃l ok,JM t=some (l,ok)/\ZS t=(if ok=true then some l else none)/\l.length<=20000:=by
 obtain⟨r,h1,h2⟩:=tG t ht (L t).length 0 [] (by omega) (by omega) (by simp);unfold ZS JM;have h1':Az (fun s:List Df×ByteArray×Int×Bool=>Ef t s.1 s.2.1 s.2.2.1 s.2.2.2) ([],t,0,false)=some r:=h1;rw [h1']
 rcases h2 with rfl|⟨l,rfl,h3⟩
 ·exact⟨[],false,rfl,rfl,by simp⟩
 ·exact⟨l,true,rfl,rfl,by omega⟩
def wW (t part cnt:Int) (y:Ak):Bool:=y.Page.Kind==2&&(y.Page.Tx==t&&(y.Page.Part==part&&(!decide (part>0)||y.Page.Count==cnt)))
def SU (r:List Ak) (t part cnt:Int):Option Ak:=r.find? (wW t part cnt)
theorem tZ {α:Type} (l:List α) (p:α->Bool) {i:Nat} (h:∀j x,j<i->l[j]?=some x->p x=false) {x:α} (hx:l[i]?=some x) (hp:p x=true):l.find? p=some x:=by
 obtain⟨h1,h2⟩:=Iu hx;rw [h1,List.find?_append];have:(l.take i).find? p=none:=by
  rw [EH];intro y hy;obtain⟨j,hj,rfl⟩:=AF hy;rw [AC]at hj;rw [Et];rw [h j _ (by omega) (Ab _)];simp
 rw [this,Option.none_or,List.find?_cons_of_pos hp]
theorem ABG {α:Type} (l:List α) (p:α->Bool) (h:∀(j:Nat) x,l[j]?=some x->p x=false):l.find? p=none:=by
 rw [EH];intro y hy;obtain⟨j,hj,rfl⟩:=AF hy;rw [h j _ (Ab hj)];simp
structure Iv (r:List Ak):Prop where
 len:r.length<=1048576
 text:∀y∈r,(L y.Page.Text).length<=90
 seq:∀y∈r,1<=y.Page.Seq/\y.Page.Seq<=1000000000
 tx:∀y∈r,1<=y.Page.Tx/\y.Page.Tx<=1000000000
 cnt:∀y∈r,1<=y.Page.Count/\y.Page.Count<=9
 part:∀y∈r,0<=y.Page.Part/\y.Page.Part<y.Page.Count
def QT (part seq:Int) (y:Ak):Int:=if part=0\/y.Page.Seq<seq then y.Page.Seq else seq
theorem zW (r:List Ak) (hr:Iv r) (t part cnt:Int) (hp:0<=part) (text:ByteArray) (ht:(L text).length<=10000) (seq:Int):
  ∃text2,Az (fun s:Int×ByteArray×Bool×Int×Int=>Ip r t part s.1 s.2.1 s.2.2.1 s.2.2.2.1 s.2.2.2.2) (cnt,text,false,0,seq)=some (match SU r t part cnt with
   |none=>(cnt,text,false,seq)
   |some y=>(y.Page.Count,text2,true,QT part seq y))/\(∀y,SU r t part cnt=some y->L text2=L text++L y.Page.Text):=by
 have f:=hr.len;obtain⟨b,h1,h2⟩:=Br (body:=fun s:Int×ByteArray×Bool×Int×Int=>Ip r t part s.1 s.2.1 s.2.2.1 s.2.2.2.1 s.2.2.2.2) (fun(s:Int×ByteArray×Bool×Int) i=>(s.1,s.2.1,s.2.2.1,i,s.2.2.2)) r.length
  (fun i s=>(s=(cnt,text,false,seq)/\∀(j:Nat) x,j<i->r[j]?=some x->wW t part cnt x=false)\/∃y u,SU r t part cnt=some y/\L u=L text++L y.Page.Text/\s=(y.Page.Count,u,true,QT part seq y))
  (fun b=>(b=(cnt,text,false,seq)/\SU r t part cnt=none)\/∃y u,SU r t part cnt=some y/\L u=L text++L y.Page.Text/\b=(y.Page.Count,u,true,QT part seq y))
  (fun s i hi hs=>by
   have hx:=Ab hi;have hm:r[i]∈r:=AK hi;simp only [Ip,AQ,Ac hi,Af,Aa]
   rcases hs with⟨rfl,hs⟩|⟨y,u,f1,f2,rfl⟩
   ·simp only [Be,Af,AH,hx,Aa];have c:(bif(r[i].Page.Kind !=2)then(some true)else(bif(r[i].Page.Tx !=t)then(some true)else(bif(r[i].Page.Part !=part)then(some true)else(bif(decide (part>0))then(some (r[i].Page.Count !=cnt))else(some false)))):Option Bool)=some (!wW t part cnt r[i]):=by
     unfold wW;simp only [bne];cases r[i].Page.Kind==2<;>cases r[i].Page.Tx==t<;>cases r[i].Page.Part==part<;>cases decide (part>0)<;>cases r[i].Page.Count==cnt<;>rfl
    rw [c];simp only [Aa];rw [ad1 (by omega)]
    cases hM:wW t part cnt r[i]with
    |false=>
     refine .inl ⟨_,rfl,.inl ⟨rfl,fun j x hj a=>?_⟩⟩;by_cases e:j=i
     ·subst e;rw [hx]at a
      injection a with a
      rw [<-a];exact hM
     ·exact hs j x (by omega) a
    |true=>
     have g:=hr.text _ hm;simp only [Ar,Ad];rw [G0 _ _ (by omega)];simp only [Aa];have hf:SU r t part cnt=some r[i]:=tZ r _ (fun j x hj a=>hs j x hj a) hx hM;have d:(bif(part==0)then(some true)else(some (decide (r[i].Page.Seq<seq))):Option Bool)=some (decide (part=0\/r[i].Page.Seq<seq)):=by
      by_cases e:part=0
      ·rw [show(part==0)=true by simpa using e,Ac (show part=0\/r[i].Page.Seq<seq from .inl e)];rfl
      ·rw [show(part==0)=false by simpa using e];simp only [Ad];by_cases e2:r[i].Page.Seq<seq
       ·rw [Ac e2,Ac (show part=0\/r[i].Page.Seq<seq from .inr e2)]
       ·rw [Ae e2,Ae (by rintro(h|h);exact e h;exact e2 h)]
     rw [d];simp only [Aa];refine .inl ⟨(r[i].Page.Count,text++r[i].Page.Text,true,QT part seq r[i]),?_,.inr ⟨r[i],_,hf,D4 _ _,rfl⟩⟩;unfold QT;by_cases e:part=0\/r[i].Page.Seq<seq
     ·rw [Ac e,Ay e];rfl
     ·rw [Ae e,A0 e];rfl
   ·simp only [Ar,Ad]
    exact .inr ⟨_,rfl,.inr ⟨y,u,f1,f2,rfl⟩⟩)
  (fun s hs=>by
   refine⟨s,by simp only [Ip,AQ,Aw,A5,Ad,Aa],?_⟩
   rcases hs with⟨rfl,hs⟩|hs
   ·exact .inl ⟨rfl,ABG r _ fun j x hx=>hs j x (Ah.1 hx).1 hx⟩
   ·exact .inr hs) (s:=(cnt,text,false,seq)) (.inl ⟨rfl,fun j x hj=>by omega⟩)
 have h1':Az (fun s:Int×ByteArray×Bool×Int×Int=>Ip r t part s.1 s.2.1 s.2.2.1 s.2.2.2.1 s.2.2.2.2) (cnt,text,false,0,seq)=some b:=h1;rw [h1']
 rcases h2 with⟨rfl,h2⟩|⟨y,u,f1,f2,rfl⟩
 ·rw [h2];exact⟨text,rfl,fun y hy=>by cases hy⟩
 ·rw [f1];refine⟨u,rfl,fun z hz=>?_⟩
  injection hz with hz
  rw [<-hz];exact f2
def parts (r:List Ak) (t:Int):Nat->Int->Int->List UInt8->Int->Option (List UInt8×Int)
 |0,_,_,_,_=>none
 |n+1,part,cnt,text,seq=>if part=0\/part<cnt then(match SU r t part cnt with
  |none=>none
  |some y=>parts r t n (part+1) y.Page.Count (text++L y.Page.Text) (QT part seq y))else some (text,seq)
theorem ABu {t part cnt:Int} {y:Ak} (h:wW t part cnt y=true) (hp:0<part):y.Page.Count=cnt:=by
 unfold wW at h;simp only [An,Da,Dm,AU,Cw]at h
 rcases h.2.2.2 with h|h
 ·omega
 ·exact h
theorem Xd {r:List Ak} {t part cnt:Int} {y:Ak} (h:SU r t part cnt=some y):y∈r/\wW t part cnt y=true:=⟨List.mem_of_find?_eq_some h,List.find?_some h⟩
theorem mE (r:List Ak) (hr:Iv r) (t:Int):∀(n:Nat) (part cnt:Int) (text:ByteArray) (seq:Int),part+n=11->0<=part->(part=0\/(part<=cnt/\cnt<=9))->(L text).length<=90*part.toNat->
  ∃b,Az (fun s:Int×ByteArray×Int×Int=>NS r t s.1 s.2.1 s.2.2.1 s.2.2.2) (cnt,text,part,seq)=some b/\(match parts r t n part cnt (L text) seq with
   |none=>∃q,b= .inr (Tx.mk t q [],false)
   |some (x,q)=>∃u,b= .inl (u,q)/\L u=x/\(L u).length<=1000)
 |0,part,cnt,text,seq,hn,h0,hc,ht=>by omega
 |n+1,part,cnt,text,seq,hn,h0,hc,ht=>by
  rw [AB];simp only [NS,parts];have a:(bif(part==0)then(some true)else(some (decide (part<cnt))):Option Bool)=some (decide (part=0\/part<cnt)):=by
   by_cases e:part=0
   ·rw [show(part==0)=true by simpa using e,Ac (show part=0\/part<cnt from .inl e)];rfl
   ·rw [show(part==0)=false by simpa using e];simp only [Ad];by_cases e2:part<cnt
    ·rw [Ac e2,Ac (show part=0\/part<cnt from .inr e2)]
    ·rw [Ae e2,Ae (by rintro(h|h);exact e h;exact e2 h)]
  rw [a];simp only [Aa];by_cases e:part=0\/part<cnt
  ·rw [Ac e,Ay e];simp only [Af];obtain⟨text2,h1,h2⟩:=zW r hr t part cnt h0 text (by omega) seq;rw [h1]
   cases hf:SU r t part cnt with
   |none=>
    simp only [Aa,Be,Af];exact⟨_,rfl,_,rfl⟩
   |some y=>
    simp only [Aa,Ar,Ad];have hy:=Xd hf;have hL:=h2 y hf;have c:=hr.text y hy.1;have d:=hr.cnt y hy.1;rw [C5 (by omega) (by omega),<-hL];refine mE r hr t n (part+1) y.Page.Count text2 _ (by omega) (by omega) (.inr ?_) ?_
    ·rcases e with e|e
     ·have:=hr.part y hy.1;omega
     ·by_cases e2:part=0
      ·omega
      ·have:=ABu hy.2 (by omega);omega
    ·rw [hL,Ag];omega
  ·rw [Ae e,A0 e];simp only [Ad];exact⟨_,rfl,text,rfl,rfl,by omega⟩
noncomputable def HM (r:List Ak) (t:Int):Option Tx:=match parts r t 11 0 0 [] 0 with
 |none=>none
 |some (x,q)=>(ZS (bs x)).map fun l=>Tx.mk t q l
theorem AEg (u:ByteArray):bs (L u)=u:=HK (by rw [DV])
theorem ZH (r:List Ak) (hr:Iv r) (t:Int):∃x ok,UL r t=some (x,ok)/\HM r t=(if ok=true then some x else none)/\x.Recs.length<=20000:=by
 obtain⟨b,h1,h2⟩:=mE r hr t 11 0 0 (bs []) 0 (by omega) (by omega) (.inl rfl) (by rw [DV];simp);rw [DV]at h2;unfold UL HM;rw [h1];simp only [Aa]
 cases hp:parts r t 11 0 0 [] 0 with
 |none=>
  rw [hp]at h2;obtain⟨z,rfl⟩:=h2;exact⟨_,_,rfl,rfl,by simp⟩
 |some w=>
  obtain⟨x,q⟩:=w;rw [hp]at h2;obtain⟨u,rfl,rfl,h4⟩:=h2;simp only [Co];obtain⟨l,ok,r1,r2,r3⟩:=r9 u (by omega);rw [r1,AEg,r2];simp only [Aa]
  cases ok with
  |true=>exact⟨_,_,rfl,rfl,r3⟩
  |false=>exact⟨_,_,rfl,rfl,r3⟩
end Go.TI
namespace Go.TI
open Go
theorem RA {α:Type} {P:List α->Prop} (nil:P []) (app:∀l x,P l->P (l++ [x])) (l:List α):P l:=by
 rw [<-List.reverse_reverse l]
 induction l.reverse with
 |nil=>exact nil
 |cons x l ih=>rw [List.reverse_cons];exact app _ _ ih
def DH (r:List Ak):List Int:=r.foldl (fun ns y=>if y.Page.Kind=2 then ins ns y.Page.Tx else ns) []
theorem RG (r:List Ak) (y:Ak):DH (r++ [y])=if y.Page.Kind=2 then ins (DH r) y.Page.Tx else DH r:=by unfold DH;rw [GO];rfl
theorem HD (r:List Ak) (h:∀y∈r,1<=y.Page.Tx):asc (DH r)/\(∀x,x∈DH r↔∃y∈r,y.Page.Kind=2/\y.Page.Tx=x)/\(DH r).length<=r.length:=by
 have main:∀n,n<=r.length->asc (DH (r.take n))/\(∀x,x∈DH (r.take n)↔∃y∈r.take n,y.Page.Kind=2/\y.Page.Tx=x)/\(DH (r.take n)).length<=n:=by
  intro n
  induction n with
  |zero=>intro _;simp [DH,asc]
  |succ n ih=>
   intro hn;obtain⟨h1,h2,h3⟩:=ih (by omega);have et:r.take (n+1)=r.take n++ [r[n]'(by omega)]:=Av (by omega);have hy:=h _ (AK (show n<r.length by omega));generalize r[n]'(by omega)=y at et hy;rw [et,RG]
   have a:∀z∈DH (r.take n),0<z:=fun z hz=>by
    obtain⟨w,hw,_,h5⟩:=(h2 z).1 hz;have:=h w (List.mem_of_mem_take hw);omega
   by_cases e:y.Page.Kind=2
   ·rw [Ay e];refine⟨tX h1,fun x=>?_,by have:=WT (DH (r.take n)) y.Page.Tx h1;omega⟩;rw [tW a,h2 x];simp only [Aj,A6];constructor
    ·rintro(⟨w,hw,hk,ht⟩|⟨rfl,h0⟩)
     ·exact⟨w,.inl hw,hk,ht⟩
     ·exact⟨y,.inr rfl,e,rfl⟩
    ·rintro⟨w,hw|rfl,hk,ht⟩
     ·exact .inl ⟨w,hw,hk,ht⟩
     ·exact .inr ⟨ht.symm,by omega⟩
   ·rw [A0 e];refine⟨h1,fun x=>?_,by omega⟩;rw [h2 x];simp only [Aj,A6];constructor
    ·rintro⟨w,hw,hk,ht⟩;exact⟨w,.inl hw,hk,ht⟩
    ·rintro⟨w,hw|rfl,hk,ht⟩
     ·exact⟨w,hw,hk,ht⟩
     ·exact absurd hk e
 have:=main r.length (A4 _);rw [Ba]at this;exact this
theorem YB (r:List Ak) (hr:Iv r):Az (fun s:List Int×Int=>IC r s.1 s.2) ([],0)=some (DH r):=by
 have d:=hr.len;obtain⟨b,h1,h2⟩:=Br (body:=fun s:List Int×Int=>IC r s.1 s.2) (fun(o:List Int) i=>(o,i)) r.length (fun i o=>o=DH (r.take i)) (fun b=>b=DH r)
  (fun o i hi ho=>by
   have hx:=Ab hi;have hm:r[i]∈r:=AK hi;have f:=(hr.tx _ hm).1;have a:=HD (r.take i) (fun y hy=>(hr.tx y (List.mem_of_mem_take hy)).1);have g:o.length<=1048576:=by rw [ho];have:=a.2.2;rw [AC]at this;omega
   have et:r.take (i+1)=r.take i++ [r[i]]:=Av hi;simp only [IC,AQ,Ac hi,Af,AH,hx,Aa];rw [ad1 (by omega)];refine .inl ?_;by_cases e:r[i].Page.Kind=2
   ·rw [show(r[i].Page.Kind !=2)=false by simp [e]];simp only [Ad]
    rw [N5 (body:=fun s:List Int×Int=>K7 o r[i] s.1 s.2) o (fun y=>decide (y<r[i].Page.Tx)) [] (by simp;omega)
     (fun u k x hk hu=>by
      have c:=(Ah.1 hk).1
      simp only [K7,AQ,Ac c,Af,AH,hk,Aa])
     (fun u=>by simp only [K7,AQ,Aw,A5,Ad])]
    simp only [Aa,A7];have h:=BV (fun y=>decide (y<r[i].Page.Tx)) o;rw [CF (by simp only [Al];omega)];simp only [Aa]
    rw [N5 (body:=fun s:List Int×Int=>K6 o r[i] s.1 s.2) o (fun y=>decide (y>r[i].Page.Tx)) _ (by simp only [Ag,Al];omega)
     (fun u k x hk hu=>by
      have c:=(Ah.1 hk).1
      simp only [K6,AQ,Ac c,Af,AH,hk,Aa])
     (fun u=>by simp only [K6,AQ,Aw,A5,Ad])]
    simp only [Aa];refine⟨_,rfl,?_⟩;rw [et,RG,Ay e,<-ho];unfold ins;rw [Ay (by omega)]
   ·rw [show(r[i].Page.Kind !=2)=true by simpa using e]
    exact⟨o,rfl,by rw [et,RG,A0 e,ho]⟩)
  (fun o ho=>⟨o,by simp only [IC,AQ,Aw,A5,Ad],by rw [ho,Ba]⟩) (s:=[]) rfl
 rw [h2]at h1;exact h1
noncomputable def B3 (r:List Ak):List Tx:=(DH r).filterMap (HM r)
theorem PE {r:List Ak} (hr:Iv r) {t:Int} {x:Tx} (h:HM r t=some x):x.Num=t/\x.Recs.length<=20000:=by
 obtain⟨z,ok,h1,h2,h3⟩:=ZH r hr t;rw [h]at h2
 cases ok with
 |false=>cases h2
 |true=>
  rw [Ay rfl]at h2
  injection h2 with h2
  subst h2;refine⟨?_,h3⟩;unfold HM at h;split at h
  ·cases h
  ·obtain⟨l,_,rfl⟩:=AX.1 h;rfl
theorem T8 (r:List Ak) (hr:Iv r):Pg r=some (B3 r):=by
 have c:=hr.len;have a:=HD r (fun y hy=>(hr.tx y hy).1);have d:=a.2.2;unfold Pg;rw [YB r hr];simp only [Aa];obtain⟨b,h1,h2⟩:=Br (body:=fun s:List Tx×Int=>IB r (DH r) s.1 s.2) (fun(o:List Tx) i=>(o,i)) (DH r).length (fun i o=>o=((DH r).take i).filterMap (HM r)) (fun b=>b=B3 r)
  (fun o i hi ho=>by
   have hx:=Ab hi;have et:(DH r).take (i+1)=(DH r).take i++ [(DH r)[i]]:=Av hi;have e:o.length<=i:=by
    rw [ho];have:=List.length_filterMap_le (HM r) ((DH r).take i);rw [AC]at this;omega
   simp only [IB,AQ,Ac hi,Af,AH,hx,Aa];rw [ad1 (by omega)];obtain⟨z,ok,k1,k2,k3⟩:=ZH r hr (DH r)[i];rw [k1];simp only [Aa];refine .inl ?_
   cases ok with
   |true=>
    simp only [Af];rw [CF (by simp only [Al];omega)];refine⟨_,rfl,?_⟩;rw [et,List.filterMap_append,ho];simp only [List.filterMap_cons,List.filterMap_nil,k2,Cd]
   |false=>
    refine⟨o,rfl,?_⟩;rw [et,List.filterMap_append,ho]
    simp [k2])
  (fun o ho=>⟨o,by simp only [IB,AQ,Aw,A5,Ad],by rw [ho,Ba];rfl⟩) (s:=[]) rfl
 have h1':Az (fun s:List Tx×Int=>IB r (DH r) s.1 s.2) ([],0)=some b:=h1;rw [h1',h2];rfl
def mI (x:Tx):Bool:=match x.Recs with
 |[]=>false
 |r::_=>r.Kind==1
def wY (l:List Tx):Nat:=l.zipIdx.foldl (fun a z=>if mI z.1=true then z.2 else a) 0
def DO (l:List Tx):List Tx:=l.drop (wY l)
theorem Sr (l:List Tx) (x:Tx):wY (l++ [x])=if mI x=true then l.length else wY l:=by
 unfold wY;rw [List.zipIdx_append,GO];simp
theorem AAF (l:List Tx):wY l<=l.length:=by
 induction l using RA with
 |nil=>simp [wY]
 |app l x ih=>
  rw [Sr,Ag];split<;>simp<;>omega
theorem PH (l:List Tx) (x:Tx):DO (l++ [x])=if mI x=true then [x]else DO l++ [x]:=by
 unfold DO;rw [Sr];by_cases e:mI x=true
 ·rw [Ay e,Ay e,E4 rfl]
 ·rw [A0 e,A0 e,List.drop_append_of_le_length (AAF l)]
theorem iZ (l:List Tx):∃A,l=A++DO l/\(A≠ []->∃x B,DO l=x::B/\mI x=true)/\∀x B,DO l=x::B->∀y∈B,mI y=false:=by
 induction l using RA with
 |nil=>exact⟨[],rfl,fun h=>absurd rfl h,fun x B h=>by cases h⟩
 |app l x ih=>
  obtain⟨A,h1,h2,h3⟩:=ih;rw [PH];by_cases e:mI x=true
  ·rw [Ay e];exact⟨l,rfl,fun _=>⟨x,[],rfl,e⟩,fun y B h=>by injection h with _ h;subst h;intro z hz;cases hz⟩
  ·rw [A0 e];refine⟨A,by rw [<-Ap,<-h1],fun hA=>?_,fun y B h=>?_⟩
   ·obtain⟨y,B,h4,h5⟩:=h2 hA;exact⟨y,B++ [x],by rw [h4];rfl,h5⟩
   ·cases hs:DO l with
    |nil=>
     rw [hs]at h
     injection h with _ h
     subst h;intro z hz;cases hz
    |cons w B'=>
     rw [hs]at h
     injection h with h4 h5
     subst h4 h5;intro z hz;have hz:z∈B'++ [x]:=hz;rw [Aj,A6]at hz
     rcases hz with hz|rfl
     ·exact h3 w B' hs z hz
     ·simpa using e
theorem yE (A:List Tx):∀(B:List Tx),(A≠ []->∃x B',B=x::B'/\mI x=true)->(∀x B',B=x::B'->∀y∈B',mI y=false)->DO (A++B)=B:=by
 intro B
 induction B using RA with
 |nil=>
  intro h1 _
  cases A with
  |nil=>rfl
  |cons a A=>obtain⟨x,B',h,_⟩:=h1 (by simp);cases h
 |app B y ih=>
  intro h1 h2;rw [<-Ap,PH]
  cases B with
  |nil=>
   by_cases e:mI y=true
   ·rw [Ay e];rfl
   ·rw [A0 e]
    cases A with
    |nil=>rfl
    |cons a A=>
     obtain⟨x,B',h,h3⟩:=h1 (by simp)
     injection h with h4 h5
     rw [h4]at e;exact absurd h3 e
  |cons b B=>
   have hy:mI y=false:=h2 b (B++ [y]) rfl y (by simp);rw [A0 (by rw [hy];simp),ih]
   ·intro hA;obtain⟨x,B',h,h3⟩:=h1 hA
    injection h with h4 h5
    exact⟨b,B,rfl,by rw [h4];exact h3⟩
   ·intro x B' h z hz
    injection h with h4 h5
    subst h4 h5;exact h2 b (B++ [y]) rfl z (by simp [hz])
theorem VY (l:List Tx) (hl:l.length<=1048576) (hr:∀x∈l,x.Recs.length<=20000):M5 l=some (DO l):=by
 unfold M5;obtain⟨b,h1,h2⟩:=Br (body:=fun s:Int×Int=>FP l s.1 s.2) (fun(o:Int) i=>(o,i)) l.length (fun i o=>o=(wY (l.take i):Int)) (fun b=>b=(wY l:Int))
  (fun o i hi ho=>by
   have hx:=Ab hi;have et:l.take (i+1)=l.take i++ [l[i]]:=Av hi;simp only [FP,AQ,Ac hi,Af,AH,hx,Aa];rw [ad1 (by omega)];refine .inl ?_;have d:(l.take i).length=i:=by rw [AC];omega
   cases a:l[i].Recs with
   |nil=>
    refine⟨o,rfl,?_⟩;rw [et,Sr,A0 (by unfold mI;rw [a];simp),ho]
   |cons q m=>
    have hg:gi (q::m) 0=some q:=AH (i:=0);rw [Ac (by rw [Cq,Ax];omega:ln (q::m)>0)];simp only [Af,hg,Aa]
    cases hk:(q.Kind==1)with
    |true=>
     refine⟨(i:Int),rfl,?_⟩;rw [et,Sr,Ay (by unfold mI;rw [a];exact hk),d]
    |false=>
     refine⟨o,rfl,?_⟩
     rw [et,Sr,A0 (by unfold mI;rw [a];simp only [];rw [hk];simp),ho])
  (fun o ho=>⟨o,by simp only [FP,AQ,Aw,A5,Ad],by rw [ho,Ba]⟩) (s:=0) rfl
 have h1':Az (fun s:Int×Int=>FP l s.1 s.2) (0,0)=some b:=h1;rw [h1',h2];simp only [Aa];have e:=AAF l;obtain⟨c,q1,q2⟩:=RM (body:=fun s:List Tx×Int=>Hk l s.1 s.2) (fun(o:List Tx) i=>(o,i)) l.length (fun i o=>o=(l.take i).drop (wY l)/\wY l<=i) (fun b=>b=DO l)
  (fun o i hi hs=>by
   obtain⟨ho,f⟩:=hs;have hx:=Ab hi;have hm:l[i]∈l:=AK hi;have g:=hr _ hm;have et:l.take (i+1)=l.take i++ [l[i]]:=Av hi;have h:o.length<=1048576:=by rw [ho,B5,AC];omega
   simp only [Hk,AQ,Ac hi,Af,AH,hx,Aa];rw [OA (by omega)];simp only [Aa];rw [CF (by simp only [Al];omega)];simp only [Aa];rw [ad1 (by omega)];refine .inl ⟨_,rfl,?_,by omega⟩
   rw [et,List.drop_append_of_le_length (by rw [AC];omega),<-ho])
  (fun o hs=>⟨o,by simp only [Hk,AQ,Aw,A5,Ad],by rw [hs.1,Ba];rfl⟩) (l.length-wY l) (wY l) [] (by omega) ⟨by rw [C8];rw [AC];omega,A4 _⟩
 rw [q1,q2];rfl
def CD (l:Vs) (nx:Int) (recs:List Df):Option (Vs×Int):=recs.foldl (fun o r=>o.bind fun p=>DP p.1 p.2 r) (some (l,nx))
theorem P5 (recs:List Df):recs.foldl (fun(o:Option (Vs×Int)) r=>o.bind fun p=>DP p.1 p.2 r) none=none:=by
 induction recs with
 |nil=>rfl
 |cons r l ih=>rw [Lc];exact ih
theorem EN (l:Vs) (nx:Int) (r:Df) (recs:List Df):CD l nx (r::recs)=(DP l nx r).bind fun p=>CD p.1 p.2 recs:=by
 unfold CD;rw [Lc];simp only [Aa]
 cases DP l nx r with
 |none=>exact P5 recs
 |some p=>rfl
theorem Kt (l:Vs) (nx:Int) (a b:List Df):CD l nx (a++b)=(CD l nx a).bind fun p=>CD p.1 p.2 b:=by
 unfold CD;rw [GO]
 cases a.foldl (fun(o:Option (Vs×Int)) r=>o.bind fun p=>DP p.1 p.2 r) (some (l,nx))with
 |none=>exact P5 b
 |some p=>rfl
def QV (s:Store) (recs:List Df) (o:Option (Store×Bool)):Prop:=match CD (BW s) s.Next recs with
 |none=>o=some (s,false)
 |some (l,nx)=>∃t,o=some (t,true)/\DQ t/\BW t=l/\t.Next=nx
theorem m6 {s:Store} (h:DQ s) (recs:List Df) (hr:recs.length<=1048576):QV s recs (NY s recs):=by
 have hl:=h.len;have d:=Sn h.ar (by have:=h.few;omega);have a:=Li s d (by omega);unfold NY;rw [a];simp only [Aa];obtain⟨b,h1,h2⟩:=Br (body:=fun q:Int×List Vol×List BU×Int=>GG s recs q.1 q.2.1 q.2.2.1 q.2.2.2) (fun(t:Store) i=>(i,t.Vols,t.Arena.Knots,t.Next)) recs.length
  (fun i t=>DQ t/\CD (BW s) s.Next (recs.take i)=some (BW t,t.Next))
  (fun b=>(b= .inr (s,false)/\CD (BW s) s.Next recs=none)\/∃t,b= .inl (t.Vols,t.Arena.Knots,t.Next)/\DQ t/\CD (BW s) s.Next recs=some (BW t,t.Next))
  (fun t i hi hs=>by
   obtain⟨hP,he⟩:=hs;have hx:=Ab hi;obtain⟨e1,e2⟩:=Iu hx;have et:recs.take (i+1)=recs.take i++ [recs[i]]:=Av hi;simp only [GG,AQ,Ac hi,Af,AH,hx,Aa];have c:=AAn hP recs[i];unfold Oq at c;have e:Store.mk t.Vols (Arena.mk t.Arena.Knots) t.Next=t:=rfl;rw [e]
   cases hv:DP (BW t) t.Next recs[i]with
   |none=>
    rw [hv]at c;rw [c];simp only [Aa,Be,Af];rw [a];refine .inr ⟨_,rfl,.inl ⟨rfl,?_⟩⟩;rw [e1,Kt,he];simp only [Aa];rw [EN,hv];rfl
   |some p=>
    obtain⟨l,nx⟩:=p;rw [hv]at c;obtain⟨u,u1,u2,u3,u4⟩:=c;rw [u1];simp only [Aa,Ar,Ad];rw [ad1 (by omega)];refine .inl ⟨u,rfl,u2,?_⟩;rw [et,Kt,he];simp only [Aa];rw [EN,hv];simp only [Aa];rw [u3,u4]
    rfl)
  (fun t hs=>⟨_,by simp only [GG,AQ,Aw,A5,Ad],.inr ⟨t,rfl,hs.1,by rw [<-hs.2,Ba]⟩⟩) (s:=s) ⟨h,rfl⟩
 have h1':Az (fun q:Int×List Vol×List BU×Int=>GG s recs q.1 q.2.1 q.2.2.1 q.2.2.2) (0,s.Vols,s.Arena.Knots,s.Next)=some b:=h1;rw [h1'];unfold QV
 rcases h2 with⟨rfl,h2⟩|⟨t,rfl,h2,h3⟩
 ·rw [h2];rfl
 ·rw [h3];exact⟨t,rfl,h2,rfl,rfl⟩
def EI (r:List Ak):Int:=r.foldl (fun m y=>if y.Page.Seq>=m then y.Page.Seq+1 else m) 1
def Gj (r:List Ak):Int:=r.foldl (fun m y=>if y.Page.Kind=2/\y.Page.Tx>=m then y.Page.Tx+1 else m) 1
def Kd (l:List Tx):Int:=match l with
 |[]=>0
 |x::_=>x.Num
def JS (l:List Tx):Vs×Int:=l.foldl (fun p x=>(CD p.1 p.2 x.Recs).getD p) ([],1)
theorem bM (r:List Ak) (y:Ak):EI (r++ [y])=if y.Page.Seq>=EI r then y.Page.Seq+1 else EI r:=by unfold EI;rw [GO];rfl
theorem bG (r:List Ak) (y:Ak):Gj (r++ [y])=if y.Page.Kind=2/\y.Page.Tx>=Gj r then y.Page.Tx+1 else Gj r:=by unfold Gj;rw [GO];rfl
theorem S8 (r:List Ak):(∀y∈r,y.Page.Seq<EI r)/\1<=EI r/\(∀b,1<=b->(∀y∈r,y.Page.Seq<b)->EI r<=b):=by
 induction r using RA with
 |nil=>exact⟨fun y hy=>(by cases hy),by simp [EI],fun b hb _=>by simpa [EI]using hb⟩
 |app r x ih=>
  obtain⟨h1,h2,h3⟩:=ih;rw [bM];refine⟨fun y hy=>?_,?_,fun b hb a=>?_⟩
  ·rw [Aj,A6]at hy
   rcases hy with hy|rfl
   ·have:=h1 y hy;split<;>omega
   ·split<;>omega
  ·split<;>omega
  ·have:=h3 b hb (fun y hy=>a y (by simp [hy]));have:=a x (by simp);split<;>omega
theorem xE (r:List Ak):(∀y∈r,y.Page.Kind=2->y.Page.Tx<Gj r)/\1<=Gj r/\(∀b,1<=b->(∀y∈r,y.Page.Kind=2->y.Page.Tx<b)->Gj r<=b):=by
 induction r using RA with
 |nil=>exact⟨fun y hy=>(by cases hy),by simp [Gj],fun b hb _=>by simpa [Gj]using hb⟩
 |app r x ih=>
  obtain⟨h1,h2,h3⟩:=ih;rw [bG];refine⟨fun y hy hk=>?_,?_,fun b hb a=>?_⟩
  ·rw [Aj,A6]at hy
   rcases hy with hy|rfl
   ·have:=h1 y hy hk;split<;>omega
   ·split
    ·omega
    ·rename_i h;have:¬y.Page.Tx>=Gj r:=fun hh=>h ⟨hk,hh⟩;omega
  ·split<;>omega
  ·have:=h3 b hb (fun y hy=>a y (by simp [hy]));split
   ·rename_i h;have:=a x (by simp) h.1;omega
   ·omega
end Go.TI
namespace Go.TI
open Go
theorem ZX {f:Flash} {r:List Ak} (h:wL f r) (hf:Cg f):Iv r:=by
 have key:∀y∈r,(1<=y.Page.Seq/\y.Page.Seq<=1000000000)/\(1<=y.Page.Tx/\y.Page.Tx<=1000000000)/\(1<=y.Page.Count/\y.Page.Count<=9)/\(0<=y.Page.Part/\y.Page.Part<y.Page.Count):=by
  intro y hy;obtain⟨b,x,g1,g2,_,g3⟩:=h.page y hy;obtain⟨_,k1⟩:=DJ g1;obtain⟨_,k2⟩:=DJ g2;have hx:=hf.text b (AI k1) x (AI k2);obtain⟨p,ok,m1,_,_,m2⟩:=IM x.Text (by omega);rw [g3]at m1
  injection m1 with m1
  injection m1 with m1 m3
  have hp:=m2 m3.symm;obtain⟨v,q1,_,q2⟩:=Tl p;rw [hp]at q1
  injection q1 with q1
  obtain⟨_,a1,a2,a3,a4,_⟩:=q2 q1.symm;rw [m1];exact⟨a1,a2,a3,a4⟩
 exact⟨h.len,h.text,fun y hy=>(key y hy).1,fun y hy=>(key y hy).2.1,fun y hy=>(key y hy).2.2.1,fun y hy=>(key y hy).2.2.2⟩
theorem dY (r:List Ak) (hr:Iv r):Az (fun s:Int×Int×Int=>GF r s.1 s.2.1 s.2.2) (0,1,1)=some (EI r,Gj r):=by
 have c:=hr.len;obtain⟨b,h1,h2⟩:=Br (body:=fun s:Int×Int×Int=>GF r s.1 s.2.1 s.2.2) (fun(o:Int×Int) i=>(i,o.1,o.2)) r.length (fun i o=>o=(EI (r.take i),Gj (r.take i))) (fun b=>b=(EI r,Gj r))
  (fun o i hi ho=>by
   subst ho;have hx:=Ab hi;have hm:r[i]∈r:=AK hi;have hs:=hr.seq _ hm;have ht:=hr.tx _ hm;have et:r.take (i+1)=r.take i++ [r[i]]:=Av hi;simp only [GF,AQ,Ac hi,Af,AH,hx,Aa];rw [et,bM,bG,ad1 (by omega)];have a:(bif(decide (r[i].Page.Seq>=EI (r.take i)))then(some (ad r[i].Page.Seq 1))else(some (EI (r.take i))):Option Int)=some (if r[i].Page.Seq>=EI (r.take i)then r[i].Page.Seq+1 else EI (r.take i)):=by
    by_cases e:r[i].Page.Seq>=EI (r.take i)
    ·rw [Ac e,Ay e,C5 (by omega) (by omega)];rfl
    ·rw [Ae e,A0 e];rfl
   rw [a];simp only [Aa];refine .inl ?_;by_cases e:r[i].Page.Kind=2
   ·rw [show(r[i].Page.Kind==2)=true by simpa using e];simp only [Af,Aa];by_cases e2:r[i].Page.Tx>=Gj (r.take i)
    ·rw [Ac e2,Ay (show r[i].Page.Kind=2/\r[i].Page.Tx>=Gj (r.take i)from⟨e,e2⟩),C5 (by omega) (by omega)];exact⟨(_,_),rfl,rfl⟩
    ·rw [Ae e2,A0 (show¬(r[i].Page.Kind=2/\r[i].Page.Tx>=Gj (r.take i))from fun hh=>e2 hh.2)];exact⟨(_,_),rfl,rfl⟩
   ·rw [show(r[i].Page.Kind==2)=false by simpa using e,A0 (show¬(r[i].Page.Kind=2/\r[i].Page.Tx>=Gj (r.take i))from fun hh=>e hh.1)]
    exact⟨(_,_),rfl,rfl⟩)
  (fun o ho=>⟨o,by simp only [GF,AQ,Aw,A5,Ad],by rw [ho,Ba]⟩) (s:=(1,1)) rfl
 rw [h2]at h1;exact h1
theorem uN:DQ (Store.mk [] (Arena.mk []) 1):=by
 refine⟨⟨by simp,rfl,by simp,by simp,by simp,by simp [Cf],by simp [Cf],by simp⟩,by simp⟩
theorem WI (l:List Tx) (x:Tx):JS (l++ [x])=(CD (JS l).1 (JS l).2 x.Recs).getD (JS l):=by unfold JS;rw [GO];rfl
theorem Wy (l:List Tx) (hl:l.length<=1048576) (hr:∀x∈l,x.Recs.length<=20000):∃t,Az (fun s:Int×List Vol×List BU×Int×Int=>GE l s.1 s.2.1 s.2.2.1 s.2.2.2.1 s.2.2.2.2) (0,[],[],1,0)=some (t.Vols,t.Arena.Knots,t.Next,Kd l)/\DQ t/\(BW t,t.Next)=JS l:=by
 obtain⟨b,h1,t,h2,h3,h4⟩:=Br (body:=fun s:Int×List Vol×List BU×Int×Int=>GE l s.1 s.2.1 s.2.2.1 s.2.2.2.1 s.2.2.2.2) (fun(o:Store×Int) i=>(i,o.1.Vols,o.1.Arena.Knots,o.1.Next,o.2)) l.length
  (fun i o=>DQ o.1/\(BW o.1,o.1.Next)=JS (l.take i)/\o.2=Kd (l.take i)) (fun b=>∃t,b=(t.Vols,t.Arena.Knots,t.Next,Kd l)/\DQ t/\(BW t,t.Next)=JS l)
  (fun o i hi hs=>by
   obtain⟨t,bs0⟩:=o;obtain⟨hP,hv,hb⟩:=hs;simp only at hP hv hb;have hx:=Ab hi;have hm:l[i]∈l:=AK hi;have j:=hr _ hm;have et:l.take (i+1)=l.take i++ [l[i]]:=Av hi;simp only [GE,AQ,Ac hi,Af,AH,hx,Aa];have g:(bif((i:Int)==0)then(some l[i].Num)else(some bs0):Option Int)=some (Kd (l.take (i+1))):=by
    by_cases e:i=0
    ·subst e;rw [et];simp [Kd]
    ·rw [show((i:Int)==0)=false by simp;omega,hb,et];simp only [Ad]
     cases h5:l.take i with
     |nil=>
      have:=BH List.length h5;rw [AC,Bi]at this;omega
     |cons a m=>rfl
   rw [g];simp only [Aa];have d:=m6 hP l[i].Recs (by omega);unfold QV at d;have h:Store.mk t.Vols (Arena.mk t.Arena.Knots) t.Next=t:=rfl;have e1:BW t=(JS (l.take i)).1:=BH Prod.fst hv;have e2:t.Next=(JS (l.take i)).2:=BH Prod.snd hv;rw [h,ad1 (by omega)];refine .inl ?_;have f:=WI (l.take i) l[i];rw [<-et]at f
   cases c:CD (BW t) t.Next l[i].Recs with
   |none=>
    rw [c]at d;rw [d];refine⟨(t,Kd (l.take (i+1))),rfl,hP,?_,rfl⟩;rw [f,<-e1,<-e2,c,Option.getD_none];exact hv
   |some p=>
    obtain⟨lv,nx⟩:=p;rw [c]at d;obtain⟨u,u1,u2,u3,u4⟩:=d;rw [u1];refine⟨(u,Kd (l.take (i+1))),rfl,u2,?_,rfl⟩;rw [f,<-e1,<-e2,c,Bb];show(BW u,u.Next)=(lv,nx)
    rw [u3,u4])
  (fun o hs=>⟨(o.1.Vols,o.1.Arena.Knots,o.1.Next,o.2),by simp only [GE,AQ,Aw,A5,Ad],o.1,by rw [hs.2.2,Ba],hs.1,by rw [hs.2.1,Ba]⟩) (s:=(Store.mk [] (Arena.mk []) 1,0)) ⟨uN,rfl,rfl⟩
 exact⟨t,by rw [<-h2];exact h1,h3,h4⟩
structure Jr (d:AE) (r:List Ak):Prop where
 fl:Cg d.Flash
 scan:wL d.Flash r
 sr:SR (Lq 0 d.Flash.Blocks) r
 st:DQ d.Store
 ab:(BW d.Store,d.Store.Next)=JS (DO (B3 r))
 seq:d.Seq=EI r
 tx:d.Tx=Gj r
 base:d.Base=Kd (DO (B3 r))
theorem Jr.pages {d:AE} {r:List Ak} (h:Jr d r):Iv r:=ZX h.scan h.fl
theorem WZ {r:List Ak} (hr:Iv r):(B3 r).length<=1048576/\∀x∈B3 r,x.Recs.length<=20000:=by
 have b:=hr.len;have a:=HD r (fun y hy=>(hr.tx y hy).1);have:=List.length_filterMap_le (HM r) (DH r);refine⟨by unfold B3;omega,fun x hx=>?_⟩;obtain⟨t,_,ht⟩:=List.mem_filterMap.1 hx;exact(PE hr ht).2
theorem ZE (l:List Tx):(DO l).length<=l.length/\∀x∈DO l,x∈l:=⟨by unfold DO;rw [B5];omega,fun x hx=>List.mem_of_mem_drop hx⟩
theorem R8 {f:Flash} (hf:Cg f):∃d r,EL f=some (d,true)/\Jr d r/\d.Flash=f:=by
 obtain⟨r,hs,a⟩:=ACS hf;have hr:=ZX hs hf;obtain⟨g1,g2⟩:=WZ hr;obtain⟨b1,b2⟩:=ZE (B3 r);obtain⟨t,t1,t2,t3⟩:=Wy (DO (B3 r)) (by omega) (fun x hx=>g2 x (b2 x hx));refine⟨AE.mk f t (EI r) (Gj r) (Kd (DO (B3 r))),r,?_,⟨hf,hs,a,t2,t3,rfl,rfl,rfl⟩,rfl⟩;unfold EL;rw [Ql hf,hs.s,Gz f hf.cap];unfold NU;simp only [Aa,Ar,Ad];rw [dY r hr,T8 r hr];simp only [Aa];rw [VY _ g1 g2];simp only [Aa];rw [t1];rfl
theorem i9 (a b:List Int) (ha:a.length<=1048576):Kp a b=some (decide (a=b)):=by
 unfold Kp;by_cases hl:a.length=b.length
 ·rw [show(ln a !=ln b)=false by simp [ln,hl]];simp only [Ad]
  rw [uA (body:=fun s:Int=>FM a b s) a b (fun x y=>x==y) hl (by omega)
   (fun i x y hx hy=>by
    have hi:=(Ah.1 hx).1;simp only [FM,AQ,Ac hi,Af,AH,hx,hy,Aa];rw [ad1 (by omega)]
    cases c:x==y<;>simp [bne,c])
   (by simp only [FM,AQ,Aw,A5,Ad])]
  have:=sP (p:=fun x y:Int=>x==y) (a:=a) (b:=b) (fun x _ y _=>by simp) hl
  cases hz:(a.zip b).all (fun z=>z.1==z.2)with
  |true=>rw [Ac (this.1 hz)];rfl
  |false=>rw [Ae (fun hh=>by rw [this.2 hh]at hz;cases hz)];rfl
 ·rw [show(ln a !=ln b)=true by simp [ln];omega,Ae (fun hh=>hl (by rw [hh]))];rfl
theorem nN {a b:Store} (ha:DQ a) (hb:DQ b):M6 a b=some (decide (BW a=BW b/\a.Next=b.Next)):=by
 have d:=ha.len;have e:=hb.len;have f:=ha.few;have g:=hb.few;unfold M6;by_cases hl:a.Vols.length=b.Vols.length
 ·rw [show(ln a.Vols !=ln b.Vols)=false by simp [ln,hl]];simp only [Ad,Aa];by_cases hn:a.Next=b.Next
  ·rw [show(a.Next !=b.Next)=false by simp [hn]];simp only [Ad]
   rw [uA (body:=fun s:Int=>Hm a b s) a.Vols b.Vols (fun v w=>v.Id==w.Id&&decide (EG a.Arena.Knots v.Root=EG b.Arena.Knots w.Root)) hl (by omega)
    (fun i x y hx hy=>by
     have hi:=(Ah.1 hx).1;simp only [Hm,AQ,Ac hi,Af,AH,hx,hy,Aa];rw [Oc _ (by omega) ha.ar (ha.root _ (AL.2 ⟨x,AI hx,rfl⟩)),Oc _ (by omega) hb.ar (hb.root _ (AL.2 ⟨y,AI hy,rfl⟩))];simp only [Aa];rw [i9 _ _ (by unfold EG;simp)];simp only [Aa];rw [ad1 (by omega)]
     cases c:x.Id==y.Id with
     |false=>simp [bne,c]
     |true=>
      simp only [bne,c,Ar,Ad,CU]
      cases decide (EG a.Arena.Knots x.Root=EG b.Arena.Knots y.Root)<;>rfl)
    (by simp only [Hm,AQ,Aw,A5,Ad])]
   have key:(a.Vols.zip b.Vols).all (fun z=>z.1.Id==z.2.Id&&decide (EG a.Arena.Knots z.1.Root=EG b.Arena.Knots z.2.Root))=decide (BW a=BW b):=by
    unfold BW;generalize a.Vols=l at hl;generalize b.Vols=m at hl
    induction l generalizing m with
    |nil=>cases m with
     |nil=>simp
     |cons y m=>simp at hl
    |cons x l ih=>
     cases m with
     |nil=>simp at hl
     |cons y m=>
      rw [List.zip_cons_cons,Ep,ih m (by simpa using hl),FC];simp only [An,Cw,AA,BN,OO,By]
   rw [key]
   cases hd:decide (BW a=BW b)with
   |true=>rw [Ac ⟨IT hd,hn⟩];rfl
   |false=>rw [Ae (fun hh=>of_decide_eq_false hd hh.1)];rfl
  ·rw [show(a.Next !=b.Next)=true by simpa using hn,Ae (fun hh=>hn hh.2)];rfl
 ·rw [show(ln a.Vols !=ln b.Vols)=true by simp [ln];omega,Ae (fun hh=>hl (by have:=BH List.length hh.1;rwa [NB,NB]at this))];rfl
theorem Tw {d:AE} {r:List Ak} (h:Jr d r):Ng d=some d:=by
 have:=h.st.len;unfold Ng;rw [Gz _ h.fl.cap,Li _ (Sn h.st.ar (by have:=h.st.few;omega)) (by omega)];rfl
theorem Jr.uniq {d d':AE} {r r':List Ak} (h:Jr d r) (h':Jr d' r') (e:d.Flash=d'.Flash):r=r':=by
 have h1:=h.sr;have h2:=h'.sr;rw [<-e]at h2;exact h1.uniq h2
theorem eM {d:AE} {r:List Ak} (h:Jr d r):NZ d=some true:=by
 obtain⟨m,r',h1,h2,h3⟩:=R8 h.fl;obtain rfl:=h.uniq h2 h3.symm;unfold NZ;rw [h1];simp only [Aa,Af];have e:=h2.ab.trans h.ab.symm
 injection e with e1 e2
 rw [nN h2.st h.st,Ac ⟨e1,e2⟩];simp only [Aa,Af];rw [h2.seq,h.seq,h2.tx,h.tx,h2.base,h.base];simp only [BEq.rfl,Af];rw [T6 h.st];rfl
end Go.TI
namespace Go.TI
open Go
theorem Xf {α β:Type} {l:List α} {f g:α->Option β} (h:∀x∈l,f x=g x):l.filterMap f=l.filterMap g:=by
 induction l with
 |nil=>rfl
 |cons a l ih=>rw [List.filterMap_cons,List.filterMap_cons,h a (by simp),ih (fun x hx=>h x (by simp [hx]))]
theorem rJ {α:Type} {l:List α} {p q:α->Bool} (h:∀x∈l,p x=q x):l.find? p=l.find? q:=by
 induction l with
 |nil=>rfl
 |cons a l ih=>rw [List.find?_cons,List.find?_cons,h a (by simp),ih (fun x hx=>h x (by simp [hx]))]
theorem TD {r r':List Ak} {t:Int} (h:∀part cnt,SU r' t part cnt=SU r t part cnt):∀(n:Nat) (part cnt:Int) (x:List UInt8) (q:Int),parts r' t n part cnt x q=parts r t n part cnt x q
 |0,_,_,_,_=>rfl
 |n+1,part,cnt,x,q=>by
  simp only [parts,h];split
  ·split
   ·rfl
   ·exact TD h n _ _ _ _
  ·rfl
theorem Q9 {r r':List Ak} {t:Int} (h:∀part cnt,SU r' t part cnt=SU r t part cnt):HM r' t=HM r t:=by
 unfold HM;rw [TD h]
theorem SS {t part cnt:Int} {y:Ak} (h:wW t part cnt y=true):y.Page.Kind=2/\y.Page.Tx=t/\y.Page.Part=part:=by
 unfold wW at h;simp only [An,Cw]at h;exact⟨h.1,h.2.1,h.2.2.1⟩
theorem gX (r m:List Ak) (t part cnt:Int):SU (r++m) t part cnt=(SU r t part cnt).or (SU m t part cnt):=by unfold SU;rw [List.find?_append]
theorem Sf {r:List Ak} {t part cnt:Int} (h:∀y∈r,y.Page.Kind=2->y.Page.Tx≠t):SU r t part cnt=none:=by
 unfold SU;rw [EH];intro y hy hm;obtain⟨h1,h2,_⟩:=SS hm;exact h y hy h1 h2
theorem uJ {r:List Ak} {t:Int} (h:∀y∈r,y.Page.Kind=2->y.Page.Tx≠t):HM r t=none:=by
 unfold HM;have:parts r t 11 0 0 [] 0=none:=by
  simp only [parts];rw [Ay (.inl trivial),Sf h]
 rw [this]
theorem vF (r:List Ak) {y:Ak} (hy:y.Page.Kind≠2):DH (r++ [y])=DH r:=by rw [RG,A0 hy]
theorem TK (r:List Ak) {y:Ak} (hy:y.Page.Kind≠2):B3 (r++ [y])=B3 r:=by
 unfold B3;rw [vF r hy];congr 1;funext t
 refine Q9 fun part cnt=>?_
 rw [gX,Sf (r:=[y]) (fun z hz hk=>by
  rw [A6]at hz;rw [hz]at hk
  exact absurd hk hy),Option.or_none]
structure bA (m:List Ak) (t:Int) (n:Nat) (texts:List ByteArray):Prop where
 len:m.length<=n
 pos:1<=n/\n<=9
 tl:texts.length=n
 at_:∀(i:Nat) y,m[i]?=some y->y.Page.Kind=2/\y.Page.Tx=t/\y.Page.Part=i/\y.Page.Count=n/\texts[i]?=some y.Page.Text
theorem bA.all {m:List Ak} {t:Int} {n:Nat} {texts:List ByteArray} (h:bA m t n texts) {y:Ak} (hy:y∈m):y.Page.Kind=2/\y.Page.Tx=t:=by
 obtain⟨i,hi,rfl⟩:=AF hy;obtain⟨h1,h2,_⟩:=h.at_ i _ (Ab hi);exact⟨h1,h2⟩
theorem zK (r:List Ak) (hr:∀y∈r,1<=y.Page.Tx) {t:Int} (ht:∀y∈r,y.Page.Kind=2->y.Page.Tx<t) (h0:1<=t):∀(m:List Ak),m≠ []->(∀y∈m,y.Page.Kind=2/\y.Page.Tx=t)->DH (r++m)=DH r++ [t]:=by
 intro m hm a
 have h1:=HD (r++m) (fun y hy=>by
  rcases Aj.1 hy with hy|hy
  ·exact hr y hy
  ·rw [(a y hy).2];exact h0)
 have h2:=HD r hr
 refine Vf h1.1 ?_ fun x=>?_
 ·unfold asc;rw [Bo];refine⟨h2.1,HH _ _,fun x hx z hz=>?_⟩;rw [A6]at hz;obtain⟨y,hy,hk,rfl⟩:=(h2.2.1 x).1 hx;rw [hz];exact ht y hy hk
 ·rw [h1.2.1,Aj,A6,h2.2.1];constructor
  ·rintro⟨y,hy,hk,rfl⟩
   rcases Aj.1 hy with hy|hy
   ·exact .inl ⟨y,hy,hk,rfl⟩
   ·exact .inr (a y hy).2
  ·rintro(⟨y,hy,hk,rfl⟩|rfl)
   ·exact⟨y,Aj.2 (.inl hy),hk,rfl⟩
   ·cases m with
    |nil=>exact absurd rfl hm
    |cons y m=>exact⟨y,by simp,(a y (by simp)).1,(a y (by simp)).2⟩
theorem ABF {m:List Ak} {t:Int} {n:Nat} {texts:List ByteArray} (h:bA m t n texts) {part:Nat} {cnt:Int} (hc:part=0\/cnt=n):SU m t part cnt=m[part]? :=by
 cases hy:m[part]? with
 |none=>
  unfold SU;rw [EH];intro y a hm;obtain⟨i,hi,rfl⟩:=AF a;obtain⟨_,_,h3,_⟩:=h.at_ i _ (Ab hi);have:=(SS hm).2.2;rw [List.getElem?_eq_none_iff]at hy;omega
 |some y=>
  obtain⟨h1,h2,h3,h4,_⟩:=h.at_ part y hy;refine tZ m _ (fun j x hj hx=>?_) hy ?_
  ·obtain⟨_,_,k3,_⟩:=h.at_ j x hx;rw [Bool.eq_false_iff];intro hm;have:=(SS hm).2.2;omega
  ·unfold wW;rw [h1,h2,h3,h4];simp only [BEq.rfl,CU,Da,Dm,AU,Cw]
   rcases hc with hc|hc
   ·left;omega
   ·right;omega
def Na (l:List ByteArray):List UInt8:=l.flatMap L
theorem ZW {r m:List Ak} {t:Int} {n:Nat} {texts:List ByteArray} (hr:∀y∈r,y.Page.Kind=2->y.Page.Tx≠t) (h:bA m t n texts):∀(k part:Nat) (cnt:Int) (x:List UInt8) (q:Int) (fuel:Nat),part+k=n->(part=0\/cnt=n)->k<fuel->
  (m.length=n->∃q',parts (r++m) t fuel part cnt x q=some (x++Na (texts.drop part),q'))/\(m.length<n->part<=m.length->parts (r++m) t fuel part cnt x q=none)
 |k,part,cnt,x,q,0,hk,hc,hf=>by omega
 |0,part,cnt,x,q,fuel+1,hk,hc,hf=>by
  have hp:=h.pos;simp only [parts];rw [A0 (by omega)];refine⟨fun _=>⟨q,?_⟩,fun h1 h2=>by omega⟩;rw [C8 (by have:=h.tl;omega)];simp [Na]
 |k+1,part,cnt,x,q,fuel+1,hk,hc,hf=>by
  have hp:=h.pos;simp only [parts];rw [Ay (by omega),gX,Sf hr,Option.none_or,ABF h hc]
  cases hy:m[part]? with
  |none=>
   rw [List.getElem?_eq_none_iff]at hy;exact⟨fun h1=>by omega,fun _ _=>rfl⟩
  |some y=>
   obtain⟨h1,h2,h3,h4,h5⟩:=h.at_ part y hy;have a:=(Ah.1 hy).1;simp only [];obtain⟨k1,k2⟩:=ZW hr h k (part+1) y.Page.Count (x++L y.Page.Text) (QT part q y) fuel (by omega) (.inr h4) (by omega);rw [show((part+1:Nat):Int)=(part:Int)+1 from rfl]at k1 k2;refine⟨fun h6=>?_,fun h6 h7=>k2 h6 (by omega)⟩;obtain⟨q',k3⟩:=k1 h6;refine⟨q',?_⟩;rw [k3]
   rw [show texts.drop part=y.Page.Text::texts.drop (part+1) by
    have h8:=(Ah.1 h5)
    rw [Bq h8.1,h8.2]]
   simp only [Na,GP,Ap]
theorem rE (r:List Ak) (hr:∀y∈r,1<=y.Page.Tx) {t:Int} (ht:∀y∈r,y.Page.Kind=2->y.Page.Tx<t) (h0:1<=t) {m:List Ak} {n:Nat} {texts:List ByteArray} (h:bA m t n texts):
  (m.length<n->B3 (r++m)=B3 r)/\(m.length=n->∀recs,ZS (bs (Na texts))=some recs->∃q,B3 (r++m)=B3 r++ [Tx.mk t q recs]):=by
 have c:∀y∈r,y.Page.Kind=2->y.Page.Tx≠t:=fun y hy hk=>by have:=ht y hy hk;omega
 have old:∀x∈DH r,HM (r++m) x=HM r x:=by
  intro x hx;have:=HD r hr;obtain⟨y,hy,hk,rfl⟩:=(this.2.1 x).1 hx;have:=ht y hy hk
  refine Q9 fun part cnt=>?_
  rw [gX,Sf (r:=m) (fun z hz d=>by rw [(h.all hz).2];omega),Option.or_none]
 have oldG:(DH r).filterMap (HM (r++m))=B3 r:=by
  unfold B3;exact Xf old
 by_cases hm:m=[]
 ·subst hm;have:=h.pos;refine⟨fun _=>by rw [As],fun h1=>by simp at h1;omega⟩
 ·have a:=zK r hr ht h0 m hm (fun y hy=>h.all hy);have hg:B3 (r++m)=B3 r++(match HM (r++m) t with|some x=>[x]|none=>[]):=by
   have:B3 (r++m)=(DH (r++m)).filterMap (HM (r++m)):=rfl;rw [this,a,List.filterMap_append,oldG];congr 1
   cases hx:HM (r++m) t with
   |none=>simp [hx]
   |some x=>simp [hx]
  have hp:=h.pos;obtain⟨p1,p2⟩:=ZW c h n 0 0 [] 0 11 (by omega) (.inl rfl) (by omega);refine⟨fun h1=>?_,fun h1 recs b=>?_⟩
  ·have:HM (r++m) t=none:=by
    unfold HM;have:=p2 h1 (by omega);rw [show((0:Nat):Int)=0 from rfl]at this;rw [this]
   rw [hg,this,As]
  ·obtain⟨q,p3⟩:=p1 h1;rw [show((0:Nat):Int)=0 from rfl]at p3;have:HM (r++m) t=some (Tx.mk t q recs):=by
    unfold HM;rw [p3];simp only [A7,List.drop_zero];rw [b];rfl
   exact⟨q,by rw [hg,this]⟩
structure nT (r:List Ak):Prop where
 uniq:∀y∈r,∀z∈r,y.Page.Kind=2->z.Page.Kind=2->y.Page.Tx=z.Page.Tx->y.Page.Part=z.Page.Part->y=z
theorem rI {r:List Ak} (h:nT r) (p:Ak->Bool) {t part cnt:Int} {y:Ak} (hf:SU (r.filter p) t part cnt=some y):SU r t part cnt=some y:=by
 obtain⟨h1,h2⟩:=Xd hf;have h3:=(AM.1 h1).1
 cases hz:SU r t part cnt with
 |none=>
  unfold SU at hz;rw [EH]at hz;exact absurd h2 (hz y h3)
 |some z=>
  obtain⟨k1,k2⟩:=Xd hz;obtain⟨a1,a2,a3⟩:=SS h2;obtain⟨b1,b2,b3⟩:=SS k2;rw [h.uniq z k1 y h3 b1 a1 (by rw [a2,b2]) (by rw [a3,b3])]
theorem RE {r:List Ak} (h:nT r) (p:Ak->Bool) {t:Int}:∀(n:Nat) (part cnt:Int) (x:List UInt8) (q:Int) (w:List UInt8×Int),parts (r.filter p) t n part cnt x q=some w->parts r t n part cnt x q=some w
 |0,_,_,_,_,_,hw=>by cases hw
 |n+1,part,cnt,x,q,w,hw=>by
  simp only [parts]at hw⊢;split
  ·rename_i hc;rw [Ay hc]at hw
   cases hf:SU (r.filter p) t part cnt with
   |none=>rw [hf]at hw;cases hw
   |some y=>
    rw [hf]at hw;rw [rI h p hf];exact RE h p n _ _ _ _ w hw
  ·rename_i hc;rw [A0 hc]at hw;exact hw
theorem iU {r:List Ak} (h:nT r) (p:Ak->Bool) {t:Int} {x:Tx} (hx:HM (r.filter p) t=some x):HM r t=some x:=by
 unfold HM at hx⊢
 cases hp:parts (r.filter p) t 11 0 0 [] 0 with
 |none=>rw [hp]at hx;cases hx
 |some w=>
  rw [hp]at hx;rw [RE h p _ _ _ _ _ w hp];exact hx
theorem rF (r:List Ak) (hr:Iv r):(B3 r).Pairwise fun x y=>x.Num<y.Num:=by
 have h1:=(HD r (fun y hy=>(hr.tx y hy).1)).1;unfold B3;rw [List.pairwise_filterMap];refine List.Pairwise.imp ?_ h1;intro a b c x hx y hy;rw [(PE hr hx).1,(PE hr hy).1];exact c
theorem Sh {α β:Type} (l:List α) (f:α->Option β) (q:β->Bool):(l.filterMap f).filter q=l.filterMap (fun a=>(f a).filter q):=by
 induction l with
 |nil=>rfl
 |cons a l ih=>
  cases h:f a with
  |none=>simp [h,ih]
  |some b=>
   cases hq:q b with
   |true=>simp [h,hq,ih,Option.filter]
   |false=>simp [h,hq,ih,Option.filter]
theorem bJ (r:List Ak) (hr:Iv r) (h:nT r) (p:Ak->Bool) (hp:∀y∈r,y.Page.Kind=2->Kd (DO (B3 r))<=y.Page.Tx->p y=true):DO (B3 (r.filter p))=DO (B3 r):=by
 have hr':Iv (r.filter p):=⟨by have:=BV p r;have:=hr.len;omega,fun y hy=>hr.text y (AM.1 hy).1,fun y hy=>hr.seq y (AM.1 hy).1,fun y hy=>hr.tx y (AM.1 hy).1,fun y hy=>hr.cnt y (AM.1 hy).1,fun y hy=>hr.part y (AM.1 hy).1⟩;have s1:=HD r (fun y hy=>(hr.tx y hy).1);have s2:=HD (r.filter p) (fun y hy=>(hr'.tx y hy).1);have e1:B3 (r.filter p)=(DH r).filterMap (HM (r.filter p)):=by
  have hn:DH (r.filter p)=(DH r).filter (fun t=>decide (t∈DH (r.filter p))):=by
   refine Vf s2.1 (List.Pairwise.filter _ s1.1) fun x=>?_
   rw [AM,AA];refine⟨fun hx=>⟨?_,hx⟩,fun hx=>hx.2⟩;obtain⟨y,hy,hk,rfl⟩:=(s2.2.1 x).1 hx;exact(s1.2.1 _).2 ⟨y,(AM.1 hy).1,hk,rfl⟩
  unfold B3
  conv=>lhs;rw [hn]
  rw [List.filterMap_filter]
  refine Xf fun t ht=>?_
  by_cases e:t∈DH (r.filter p)
  ·rw [Ay (by simpa using e)]
  ·rw [A0 (by simpa using e)];symm
   refine uJ fun y hy hk f=>e ((s2.2.1 t).2 ⟨y,hy,hk,f⟩)
 have keep:∀t,Kd (DO (B3 r))<=t->HM (r.filter p) t=HM r t:=by
  intro t ht
  refine Q9 fun part cnt=>?_
  unfold SU;rw [List.find?_filter]
  refine rJ fun y hy=>?_
  cases hm:wW t part cnt y with
  |false=>simp
  |true=>
   obtain⟨a1,a2,_⟩:=SS hm;rw [hp y hy a1 (by omega)];rfl
 have e2:B3 (r.filter p)=(B3 r).filter fun x=>(HM (r.filter p) x.Num).isSome:=by
  rw [e1];unfold B3;rw [Sh]
  refine Xf fun t ht=>?_
  cases hx:HM (r.filter p) t with
  |some x=>
   have h1:=iU h p hx;rw [h1];have h2:=(PE hr h1).1;simp only [Option.filter,h2,hx,Lx,Cd]
  |none=>
   cases hy:HM r t with
   |none=>rfl
   |some x=>
    have h2:=(PE hr hy).1;simp only [Option.filter,h2,hx,Ie,Cr,Jt]
 obtain⟨A,h1,h2,h3⟩:=iZ (B3 r);have a:=rF r hr;have hB:(DO (B3 r)).filter (fun x=>(HM (r.filter p) x.Num).isSome)=DO (B3 r):=by
  rw [FH];intro x hx;have g:=(ZE (B3 r)).2 x hx;obtain⟨t,_,ht⟩:=List.mem_filterMap.1 g;have hn:=(PE hr ht).1;have i:Kd (DO (B3 r))<=x.Num:=by
   rw [h1,Bo]at a
   cases hb:DO (B3 r)with
   |nil=>rw [hb]at hx;cases hx
   |cons b B=>
    have c:=a.2.1;rw [hb,CC]at c;rw [hb,B7]at hx;simp only [Kd]
    rcases hx with rfl|hx
    ·exact GQ _
    ·have:=c.1 x hx;omega
  rw [keep _ i,hn,ht];rfl
 rw [e2]
 conv=>lhs;rw [h1]
 rw [AS,hB];refine yE _ _ (fun d=>h2 fun hA=>?_) h3;rw [hA]at d;exact d rfl
end Go.TI
namespace Go.TI
open Go
theorem Ta:∀n:Nat,∃ds x,Cn n=ds++ [x]/\(∀d∈ds,128<=d.toNat)/\x.toNat<128/\EE (Cn n)=n
 |n=>by
  by_cases h:n<=127
  ·rw [JY h];have:(UInt8.ofNat n).toNat=n:=by rw [Gf];omega
   exact⟨[],_,rfl,by simp,by omega,by simp only [EE];omega⟩
  ·obtain⟨ds,x,h1,h2,h3,h4⟩:=Ta (n/128);rw [Si h];have e:(UInt8.ofNat (n %128+128)).toNat=n %128+128:=by rw [Gf];omega
   refine⟨UInt8.ofNat (n %128+128)::ds,x,by rw [h1];rfl,?_,h3,?_⟩
   ·intro d hd
    rcases B7.1 hd with rfl|hd
    ·omega
    ·exact h2 d hd
   ·simp only [EE];rw [h4,e];omega
termination_by n=>n
decreasing_by omega
theorem Hv {n:Nat} (h:n<=1000000000):1<=(Cn n).length/\(Cn n).length<=5:=by
 have key:∀(k n:Nat),n<128^(k+1)->(Cn n).length<=k+1:=by
  intro k
  induction k with
  |zero=>intro n hn;rw [JY (by omega)];simp
  |succ k ih=>
   intro n hn;by_cases h:n<=127
   ·rw [JY h];simp
   ·rw [Si h,Ax];have:=ih (n/128) (by rw [UG]at hn;omega);omega
 refine⟨?_,key 4 n (by omega)⟩;obtain⟨ds,x,h1,_⟩:=Ta n;rw [h1];simp
theorem nO (t:ByteArray) (ht:(L t).length<=20000) (a n:Nat) (hn:n<=1000000000) (rest:List UInt8) (h:(L t).drop a=Cn n++rest):I9 t (a:Int)=some ((n:Int),((a+(Cn n).length:Nat):Int),true):=by
 obtain⟨ds,x,hD,u,hx,hv⟩:=Ta n;obtain⟨h0,h1⟩:=Hv hn;have z:(L t).length-a=(Cn n).length+rest.length:=by
  have:=BH List.length h;rw [B5,Ag]at this;exact this
 have h2:(Cn n).length=ds.length+1:=by rw [hD];simp
 have f:∀k,k<=(Cn n).length->((L t).drop a).take k=(Cn n).take k:=fun k hk=>by rw [h,HQ hk]
 have key:∀(m k:Nat),k+m=ds.length->Az (fun s:Int×Int×Int=>Dw t (a:Int) s.1 s.2.1 s.2.2) (((EE ((Cn n).take k):Nat):Int),((128^k:Nat):Int),((a+k:Nat):Int))=some (.inr ((n:Int),((a+(Cn n).length:Nat):Int),true)):=by
  intro m
  induction m with
  |zero=>
   intro k hk;have g:k=ds.length:=by omega
   suffices d:Dw t (a:Int) ((EE ((Cn n).take k):Nat):Int) ((128^k:Nat):Int) ((a+k:Nat):Int)=some (.inr (.inr ((n:Int),((a+(Cn n).length:Nat):Int),true))) by
    rw [AB];simp only [d]
   simp only [Dw];have e:a+k<(L t).length:=by omega
   rw [C5 (b:=5) (by omega) (by omega),BK,Ac (by omega:((a+k:Nat):Int)<(a:Int)+5),Ac (by omega:((a+k:Nat):Int)<((L t).length:Int))];simp only [Af,Aa,Fc t e];have hb:(L t)[a+k]=x:=by
    have:((L t).drop a)[k]?=some x:=by
     rw [h,hD,AP (by simp;omega),g,AR (A4 _),PA];rfl
    rw [Ca,Ab e]at this;injection this
   rw [hb];have c:=Mx ds [x];rw [<-hD,hv]at c;have v:(Cn n).take k=ds:=by rw [hD,g,ON rfl]
   rw [v];simp only [EE,Nat.mul_zero,ES]at c;have hp:=e9 k (by omega);have hw:IntKind.i64.wrap (x.toNat:Int)=x.toNat:=Nc (by omega) (by omega);have l:x.toNat %128*128^k<=127*268435456:=Zw (by omega) hp;have emul:ml ((x.toNat %128:Nat):Int) ((128^k:Nat):Int)=((x.toNat %128*128^k:Nat):Int):=by
    have ec:((x.toNat %128:Nat):Int)*((128^k:Nat):Int)=((x.toNat %128*128^k:Nat):Int):=by norm_cast
    rw [Nt (by rw [ec];omega) (by rw [ec];omega),ec]
   have i:=UK ds;rw [<-g]at i c;have enew:ad ((EE ds:Nat):Int) ((x.toNat %128*128^k:Nat):Int)=(n:Int):=by
    rw [C5 (by omega) (by omega),c,sD (128^k)];omega
   rw [hw,bH,emul,enew,Ac (by omega:(x.toNat:Int)<128),Ae (by omega:¬(n:Int)>1000000000),ad1 (by omega)];simp only [Af,Ad];obtain⟨s,w,y⟩:=II n (by omega);rw [ET t (by omega) (by omega),w];simp only [Aa];have o:seq s (t.extract a (a+k+1))=true:=by
    rw [Pc,y,Hx,show a+k+1-a=k+1 by omega,f _ (by omega),AZ (by omega)];simp
   rw [o];simp only [Ar,Ad];rw [show a+k+1=a+(Cn n).length by omega]
  |succ m ih=>
   intro k hk;suffices d:Dw t (a:Int) ((EE ((Cn n).take k):Nat):Int) ((128^k:Nat):Int) ((a+k:Nat):Int)=some (.inl (((EE ((Cn n).take (k+1)):Nat):Int),((128^(k+1):Nat):Int),((a+(k+1):Nat):Int))) by
    rw [AB];simp only [d];exact ih (k+1) (by omega)
   simp only [Dw];have e:a+k<(L t).length:=by omega
   rw [C5 (b:=5) (by omega) (by omega),BK,Ac (by omega:((a+k:Nat):Int)<(a:Int)+5),Ac (by omega:((a+k:Nat):Int)<((L t).length:Int))];simp only [Af,Aa,Fc t e];have j:k<ds.length:=by omega
   have p:(Cn n)[k]?=some ds[k]:=by rw [hD,AP j,Ab j]
   have hb:(L t)[a+k]=ds[k]:=by
    have:((L t).drop a)[k]?=some ds[k]:=by
     rw [h,AP (by omega),p]
    rw [Ca,Ab e]at this;injection this
   rw [hb];have h128:=u _ (AK j);have hx:=iT ds[k];have q:(Cn n).take (k+1)=(Cn n).take k++ [ds[k]]:=by rw [Er,p];rfl
   have r:((Cn n).take k).length=k:=by rw [AC];omega
   have c:=Mx ((Cn n).take k) [ds[k]];rw [<-q,r]at c;have i:=UK ((Cn n).take k);rw [r]at i;have hp:=e9 k (by omega);generalize ds[k]=x at hx q c h128;simp only [EE,Nat.mul_zero,ES]at c;have hw:IntKind.i64.wrap (x.toNat:Int)=x.toNat:=Nc (by omega) (by omega);have l:x.toNat %128*128^k<=127*268435456:=Zw (by omega) hp;have emul:ml ((x.toNat %128:Nat):Int) ((128^k:Nat):Int)=((x.toNat %128*128^k:Nat):Int):=by
    have ec:((x.toNat %128:Nat):Int)*((128^k:Nat):Int)=((x.toNat %128*128^k:Nat):Int):=by norm_cast
    rw [Nt (by rw [ec];omega) (by rw [ec];omega),ec]
   have enew:ad (((EE ((Cn n).take k):Nat)):Int) ((x.toNat %128*128^k:Nat):Int)=((EE ((Cn n).take (k+1)):Nat):Int):=by
    rw [C5 (by omega) (by omega),c,sD (128^k)];omega
   have e1:ml ((128^k:Nat):Int) 128=((128^(k+1):Nat):Int):=by
    rw [Nt (by omega) (by omega),UG];norm_cast
   rw [hw,bH,emul,enew,Ae (by omega:¬(x.toNat:Int)<128),e1,ad1 (by omega)];rfl
 unfold I9;rw [BK,El,Ac (by omega)];simp only [Aa,Ar,Ad];have k0:=key ds.length 0 (by omega);simp only [HG,EE,Nat.pow_zero,ES]at k0;rw [show((0:Nat):Int)=0 from rfl,show((1:Nat):Int)=1 from rfl]at k0;rw [k0];rfl
theorem JT (t:ByteArray) (ht:(L t).length<=20000) (a n:Nat) (hn:n<=1000000000) (rest:List UInt8) (h:(L t).drop a=Cn n++rest):Ej (Ek.mk t (a:Int) false)=some ((n:Int),Ek.mk t ((a+(Cn n).length:Nat):Int) false):=by
 rw [IH t _ ht (nO t ht a n hn rest h)];rfl
def p9 (r:Df):List UInt8:=UInt8.ofNat (16*r.Kind+r.Vol).toNat::(Cn r.Arg.toNat++Cn r.Chunk.toNat)
theorem e7 {r:Df} (h:HB r=true):1<=r.Kind/\r.Kind<=5/\0<=r.Vol/\r.Vol<=9/\0<=r.Arg/\r.Arg<=1000000000/\0<=r.Chunk/\r.Chunk<=1000000000:=by
 unfold HB at h
 cases k1:(r.Kind==1)with
 |true=>
  have e1:r.Kind=1:=by simpa using k1
  rw [k1]at h;simp at h;omega
 |false=>
  rw [k1]at h;cases k2:(r.Kind==2)<;>cases k3:(r.Kind==3)<;>cases k4:(r.Kind==4)<;>rw [k2,k3,k4]at h<;>simp at h k2 k3 k4<;>omega
theorem dI {r:Df} (h:HB r=true):∃t,PN r=some (t,true)/\L t=p9 r:=by
 obtain⟨h1,h2,h3,h4,h5,h6,h7,h8⟩:=e7 h;obtain⟨sa,a1,a2⟩:=II r.Arg.toNat (by omega);obtain⟨sc,c1,c2⟩:=II r.Chunk.toNat (by omega);rw [B4 h5]at a1;rw [B4 h7]at c1;unfold PN L6;rw [PO,h];simp only [Aa,Ar,Ad];rw [Nt (by omega) (by omega),C5 (by omega) (by omega),a1];simp only [Aa];have l1:=(Hv (show r.Arg.toNat<=1000000000 by omega)).2;have l2:=(Hv (show r.Chunk.toNat<=1000000000 by omega)).2;have hb:∀x,(L (GS [x])).length=1:=Vz;rw [G0 _ _ (by rw [hb,a2];omega),c1];simp only [Aa];rw [G0 _ _ (by rw [D4,Ag,hb,a2,c2];omega)];simp only [Aa];refine⟨_,rfl,?_⟩;rw [D4,D4,Ix,a2,c2];unfold p9;have hw:IntKind.u8.wrap (16*r.Kind+r.Vol)=16*r.Kind+r.Vol:=by
  rw [IntKind.wrap_u8];omega
 simp only [BN,sE,hw,Ce,BA,A7]
def Gl (l:List Df):List UInt8:=l.flatMap p9
theorem yS {r:Df} (h:HB r=true):3<=(p9 r).length/\(p9 r).length<=11:=by
 obtain⟨h1,h2,h3,h4,h5,h6,h7,h8⟩:=e7 h;have l1:=Hv (show r.Arg.toNat<=1000000000 by omega);have l2:=Hv (show r.Chunk.toNat<=1000000000 by omega);unfold p9;rw [Ax,Ag];omega
theorem ZR (t:ByteArray) (ht:(L t).length<=20000):∀(l:List Df) (a:Nat) (out:List Df),(∀r∈l,HB r=true)->(L t).drop a=Gl l->a<=(L t).length->out.length<=a->Az (fun s:List Df×ByteArray×Int×Bool=>Ef t s.1 s.2.1 s.2.2.1 s.2.2.2) (out,t,(a:Int),false)=some (.inl (out++l))
 |[],a,out,hl,h,ha,ho=>by
  have:(L t).length=a:=by
   have:=BH List.length h;rw [B5]at this;simp [Gl]at this;omega
  rw [AB];simp only [Ef];rw [BK,Ae (by omega),As];rfl
 |r::l,a,out,hl,h,ha,ho=>by
  have hr:=hl r (by simp);obtain⟨h1,h2,h3,h4,h5,h6,h7,h8⟩:=e7 hr;have h':(L t).drop a=UInt8.ofNat (16*r.Kind+r.Vol).toNat::(Cn r.Arg.toNat++(Cn r.Chunk.toNat++Gl l)):=by
   rw [h];simp only [Gl,GP,p9,BA,Ap]
  have b:a<(L t).length:=by
   have:=BH List.length h';rw [B5,Ax]at this;omega
  have c:=Bq b;rw [h']at c
  injection c with hx hd
  rw [AB];simp only [Ef];rw [BK,Ac (by omega)];simp only [Af,Aa,Be];rw [Fc t b,ad1 (by omega)];simp only [Aa];rw [JT t ht (a+1) r.Arg.toNat (by omega) _ hd.symm];simp only [Aa];have d:(L t).drop (a+1+(Cn r.Arg.toNat).length)=Cn r.Chunk.toNat++Gl l:=by
   rw [<-Cy,<-hd,E4 rfl]
  rw [JT t ht _ r.Chunk.toNat (by omega) _ d];simp only [Aa,Ad];have hw:IntKind.i64.wrap (((L t)[a]).toNat:Int)=16*r.Kind+r.Vol:=by
   rw [<-hx,Gf];rw [Nc (by omega) (by omega)];omega
  have e1:qu (IntKind.i64.wrap (((L t)[a]).toNat:Int)) 16=r.Kind:=by
   rw [hw];unfold qu;rw [Int.tdiv_eq_ediv_of_nonneg (by omega),Nc (by omega) (by omega)];omega
  have e2:Int.tmod (IntKind.i64.wrap (((L t)[a]).toNat:Int)) 16=r.Vol:=by
   rw [hw,Jv (by omega)];omega
  rw [e1,e2,B4 h5,B4 h7];have e:Df.mk r.Kind r.Vol r.Arg r.Chunk=r:=rfl;rw [e,PO,hr];simp only [Aa,Ar,Ad];rw [CF (by simp only [Al];omega)];simp only [Aa];have l1:=Hv (show r.Arg.toNat<=1000000000 by omega);have l2:=Hv (show r.Chunk.toNat<=1000000000 by omega);have f:(L t).drop (a+1+(Cn r.Arg.toNat).length+(Cn r.Chunk.toNat).length)=Gl l:=by
   rw [<-Cy,d,E4 rfl]
  have g:a+1+(Cn r.Arg.toNat).length+(Cn r.Chunk.toNat).length<=(L t).length:=by
   have h9:=BH List.length h';rw [B5,Ax,Ag,Ag]at h9;omega
  have:=ZR t ht l _ (out++ [r]) (fun x hx=>hl x (by simp [hx])) f g (by simp;omega);rw [Ap,Ce]at this;exact this
theorem pZ {l:List Df} (hl:∀r∈l,HB r=true) (a:(Gl l).length<=20000):ZS (bs (Gl l))=some l:=by
 have h:=ZR (bs (Gl l)) (by rw [DV];exact a) l 0 [] hl (by rw [DV];rfl) (by omega) (by simp);unfold ZS JM;have h':Az (fun s:List Df×ByteArray×Int×Bool=>Ef (bs (Gl l)) s.1 s.2.1 s.2.2.1 s.2.2.2) ([],bs (Gl l),0,false)=some (.inl ([]++l)):=h;rw [h',A7];rfl
end Go.TI
namespace Go.TI
open Go
theorem rY (u:ByteArray) (hu:(L u).length<=20000) {v:Int} (hv:M4 u=some v):JK (u++four v)=some (u,true):=by
 have a:(L (u++four v)).length=(L u).length+4:=by rw [D4,Ag,Se]
 have e4:sb (FJ (u++four v)) 4=((L u).length:Int):=by rw [BK,a,C1 (by omega) (by omega)];omega
 unfold JK;rw [e4,Ae (by omega),Ae (by omega)];simp only [Ad];have c:sub (u++four v) 0 ((L u).length:Int)=some u:=by
  rw [show(0:Int)=((0:Nat):Int)from rfl,ET _ (by omega) (by omega)];congr 1;apply HK;rw [Hx,D4];simp
 have b:sub (u++four v) ((L u).length:Int) (FJ (u++four v))=some (four v):=by
  rw [BK,ET _ (by omega) (by omega)];congr 1;apply HK;rw [Hx,a,D4,E4 rfl,AZ (by rw [Se];omega)]
 rw [c,b];simp only [Aa];rw [hv];have h3:JJ v=some (four v):=rfl;simp only [Aa,h3];have:seq (four v) (four v)=true:=by rw [JE];simp
 rw [this];rfl
def IG (p:Page):Prop:=(p.Kind=1\/p.Kind=2)/\(1<=p.Seq/\p.Seq<=1000000000)/\(1<=p.Tx/\p.Tx<=1000000000)/\(1<=p.Count/\p.Count<=9)/\(0<=p.Part/\p.Part<p.Count)/\(L p.Text).length<=90/\(p.Kind=2\/p.Count=1)
theorem Wi (p:Page):∃v,Jl p=some v/\(v=true↔IG p):=by
 unfold Jl IG;rw [El,El,El,El,BK];simp only [Aa];by_cases h1:1<=p.Kind/\p.Kind<=2
 ·rw [Ac h1];by_cases h2:1<=p.Seq/\p.Seq<=1000000000
  ·rw [Ac h2];by_cases h3:1<=p.Tx/\p.Tx<=1000000000
   ·rw [Ac h3];by_cases h4:1<=p.Count/\p.Count<=9
    ·rw [Ac h4];simp only [Ar,Ad];rw [C1 (by omega) (by omega),El];simp only [Aa];by_cases h5:0<=p.Part/\p.Part<=p.Count-1
     ·rw [Ac h5];simp only [Ar,Ad,Aa];by_cases h6:((L p.Text).length:Int)>90
      ·rw [Ac h6];exact⟨_,rfl,by simp only [Cr,Qf];omega⟩
      ·rw [Ae h6];simp only [Ad];by_cases h7:p.Kind=2
       ·rw [show(p.Kind==2)=true by simpa using h7];exact⟨_,rfl,by simp only [true_iff];omega⟩
       ·rw [show(p.Kind==2)=false by simpa using h7];refine⟨_,rfl,?_⟩;rw [Cw];omega
     ·rw [Ae h5];exact⟨_,rfl,by simp only [Cr,Qf];omega⟩
    ·rw [Ae h4];exact⟨_,rfl,by simp only [Cr,Qf];omega⟩
   ·rw [Ae h3];exact⟨_,rfl,by simp only [Cr,Qf];omega⟩
  ·rw [Ae h2];exact⟨_,rfl,by simp only [Cr,Qf];omega⟩
 ·rw [Ae h1];exact⟨_,rfl,by simp only [Cr,Qf];omega⟩
theorem zA {p:Page} (h:IG p):Jl p=some true:=by
 obtain⟨v,h1,h2⟩:=Wi p;rw [h1,h2.2 h]
theorem u9 {p:Page} (h:IG p):∃t,EK p=some (t,true)/\1<=(L t).length/\(L t).length<=120/\DX t=some (p,true):=by
 obtain⟨h1,h2,h3,h4,h5,h6,h7⟩:=h
 let k:UInt8:=UInt8.ofNat p.Kind.toNat
 have hk:(k.toNat:Int)=p.Kind:=by
  show((UInt8.ofNat p.Kind.toNat).toNat:Int)=p.Kind;rw [Gf];omega
 let u:=bs ([k]++Cn p.Seq.toNat++Cn p.Tx.toNat++Cn p.Part.toNat++Cn p.Count.toNat++L p.Text)
 have hu:L u=[k]++Cn p.Seq.toNat++Cn p.Tx.toNat++Cn p.Part.toNat++Cn p.Count.toNat++L p.Text:=DV _;have l1:=Hv (show p.Seq.toNat<=1000000000 by omega);have l2:=Hv (show p.Tx.toNat<=1000000000 by omega);have l3:=Hv (show p.Part.toNat<=1000000000 by omega);have l4:=Hv (show p.Count.toNat<=1000000000 by omega);have e:(L u).length=1+(Cn p.Seq.toNat).length+(Cn p.Tx.toNat).length+(Cn p.Part.toNat).length+(Cn p.Count.toNat).length+(L p.Text).length:=by
  rw [hu];simp only [Ag,Al]
 have l5:(L u).length<=116:=by omega
 obtain⟨v,hv,hs⟩:=(Tj u).2 (by omega);have c:=zA ⟨h1,h2,h3,h4,h5,h6,h7⟩;have a:=TU p u k p.Seq.toNat p.Tx.toNat p.Part.toNat p.Count.toNat c hk.symm (by omega) (by omega) (by omega) (by omega) (by omega) (by omega) (by omega) (by omega) (by omega) hu;rw [hs]at a;refine⟨u++four v,a,by rw [D4,Ag];omega,by rw [D4,Ag,Se];omega,?_⟩;unfold DX;rw [rY u (by omega) hv];simp only [Aa,Ar,Ad];rw [BK,Ae (by omega)];have d0:(L u).drop 1=Cn p.Seq.toNat++(Cn p.Tx.toNat++(Cn p.Part.toNat++(Cn p.Count.toNat++L p.Text))):=by
  rw [hu];simp only [Ap,Ce,BA,List.drop_succ_cons,List.drop_zero,A7]
 rw [show(1:Int)=((1:Nat):Int)from rfl,JT u (by omega) 1 p.Seq.toNat (by omega) _ d0];simp only [Aa];have d1:(L u).drop (1+(Cn p.Seq.toNat).length)=Cn p.Tx.toNat++(Cn p.Part.toNat++(Cn p.Count.toNat++L p.Text)):=by rw [<-Cy,d0,E4 rfl]
 rw [JT u (by omega) _ p.Tx.toNat (by omega) _ d1];simp only [Aa];have d2:(L u).drop (1+(Cn p.Seq.toNat).length+(Cn p.Tx.toNat).length)=Cn p.Part.toNat++(Cn p.Count.toNat++L p.Text):=by rw [<-Cy,d1,E4 rfl]
 rw [JT u (by omega) _ p.Part.toNat (by omega) _ d2];simp only [Aa];have d3:(L u).drop (1+(Cn p.Seq.toNat).length+(Cn p.Tx.toNat).length+(Cn p.Part.toNat).length)=Cn p.Count.toNat++L p.Text:=by rw [<-Cy,d2,E4 rfl]
 rw [JT u (by omega) _ p.Count.toNat (by omega) _ d3];simp only [Aa,Ad];have d4:(L u).drop (1+(Cn p.Seq.toNat).length+(Cn p.Tx.toNat).length+(Cn p.Part.toNat).length+(Cn p.Count.toNat).length)=L p.Text:=by rw [<-Cy,d3,E4 rfl]
 have d:sx u 0=some ((k.toNat:Nat):Int):=by
  rw [show(0:Int)=((0:Nat):Int)from rfl,Fc u (by omega)];have:(L u)[0]?=some k:=by rw [hu];simp
  rw [Ab (by omega)]at this
  injection this with this
  rw [this]
 rw [d];simp only [Aa];have b:sub u ((1+(Cn p.Seq.toNat).length+(Cn p.Tx.toNat).length+(Cn p.Part.toNat).length+(Cn p.Count.toNat).length:Nat):Int) ((L u).length:Int)=some p.Text:=by
  rw [ET u (by omega) (by omega)];congr 1;apply HK;rw [Hx,d4,AZ (by omega)]
 rw [b];simp only [Aa];rw [Nc (by omega) (by omega),hk,B4 (by omega),B4 (by omega),B4 (by omega),B4 (by omega)];have hp:Page.mk p.Kind p.Seq p.Tx p.Part p.Count p.Text=p:=rfl;rw [hp,a];simp only [Aa,Ar,Ad];have:seq (u++four v) (u++four v)=true:=by rw [JE];simp
 rw [this];rfl
theorem y9 {p:Page} (h:¬IG p):EK p=some (bs [],false):=by
 obtain⟨v,h1,h2⟩:=Wi p;unfold EK;rw [h1]
 cases v with
 |true=>exact absurd (h2.1 rfl) h
 |false=>rfl
end Go.TI
namespace Go.TI
open Go
theorem uS (s:ByteArray) (f a:Nat) (hf:f<a) (ha:a<=(L s).length) (hs:(L s).length<=64):∃k:Nat,LR s (f:Int) (a:Int)=some (k:Int)/\k<=31/\a+k<=(L s).length/\∀j,j<k->(L s)[f+j]?=(L s)[a+j]? :=by
 obtain⟨b,h1,k,rfl,h2,h3,h4⟩:=Br (body:=fun n:Int=>GC s (f:Int) (a:Int) n) (fun(_:Unit) i=>i) 31 (fun i _=>a+i<=(L s).length/\∀j,j<i->(L s)[f+j]?=(L s)[a+j]?) (fun b=>∃k:Nat,b=(k:Int)/\k<=31/\a+k<=(L s).length/\∀j,j<k->(L s)[f+j]?=(L s)[a+j]?)
  (fun _ i hi hs=>by
   simp only [GC];rw [Ac (by omega:(i:Int)<31),Af,C5 (by omega) (by omega),C5 (by omega) (by omega),BK];by_cases c:a+i<(L s).length
   ·rw [Ac (by omega:((a:Int)+(i:Int))<((L s).length:Int)),Af];have e1:((f:Int)+(i:Int))=((f+i:Nat):Int):=by omega
    have e2:((a:Int)+(i:Int))=((a+i:Nat):Int):=by omega
    rw [e1,e2,Fc s (by omega),Fc s c];simp only [Aa]
    cases hq:((((L s)[f+i]).toNat:Int)==(((L s)[a+i]).toNat:Int))with
    |true=>
     simp only [Af];rw [ad1 (by omega)];refine .inl ⟨(),rfl,by omega,fun j hj=>?_⟩;by_cases e:j=i
     ·subst e;rw [Ab (by omega),Ab c];congr 1;apply UInt8.toNat_inj.1;have:(((L s)[f+j]).toNat:Int)=(((L s)[a+j]).toNat:Int):=by simpa using hq
      omega
     ·exact hs.2 j (by omega)
    |false=>exact .inr ⟨_,rfl,i,rfl,by omega,hs.1,hs.2⟩
   ·rw [Ae (by omega:¬((a:Int)+(i:Int))<((L s).length:Int)),Ad]
    exact .inr ⟨_,rfl,i,rfl,by omega,hs.1,hs.2⟩)
  (fun _ hs=>by
   simp only [GC];rw [Ae (by omega:¬((31:Nat):Int)<31),Ad]
   exact⟨_,rfl,31,rfl,by omega,hs.1,hs.2⟩) (s:=()) ⟨by omega,fun j hj=>by omega⟩
 refine⟨k,?_,h2,h3,h4⟩;unfold LR;have h1':Az (fun n:Int=>GC s (f:Int) (a:Int) n) 0=some (k:Int):=h1;rw [h1'];rfl
def AAD (s:ByteArray) (a z b:Nat):Prop:=z<=31/\a+z<=(L s).length/\(z=0\/(4<=z/\1<=b/\b<=a/\∀j,j<z->(L s)[a-b+j]?=(L s)[a+j]?))
theorem yI (s:ByteArray) (a:Nat) (ha:a<=(L s).length) (hs:(L s).length<=64):∃z b:Nat,Az (fun q:Int×Int×Int=>Ed s (a:Int) q.1 q.2.1 q.2.2) (0,0,(sb (a:Int) 1))=some ((z:Int),(b:Int))/\AAD s a z b:=by
 rw [C1 (by omega) (by omega)];obtain⟨r,h1,z,b,rfl,h2⟩:=Br (body:=fun q:Int×Int×Int=>Ed s (a:Int) q.1 q.2.1 q.2.2) (fun(q:Nat×Nat) i=>((q.1:Int),(q.2:Int),(a:Int)-1-i)) a (fun i q=>AAD s a q.1 q.2) (fun r=>∃z b:Nat,r=((z:Int),(b:Int))/\AAD s a z b)
  (fun q i hi hq=>by
   obtain⟨k,m1,m2,m3,m4⟩:=uS s (a-1-i) a (by omega) ha hs;have e1:((a:Int)-1-(i:Int))=((a-1-i:Nat):Int):=by omega
   simp only [Ed,e1];rw [Ac (by omega:(((a-1-i:Nat)):Int)>=0),Af,m1];simp only [Aa];rw [C1 (by omega) (by omega),C1 (by omega) (by omega)];refine .inl ?_;have e2:(((a-1-i:Nat):Int)-1)=(a:Int)-1-((i+1:Nat):Int):=by omega
   have e3:((a:Int)-((a-1-i:Nat):Int))=((1+i:Nat):Int):=by omega
   rw [e2,e3];by_cases h4:4<=k
   ·rw [Ac (by omega:(k:Int)>=4),Af];by_cases h5:q.1<k
    ·rw [Ac (by omega:(k:Int)>(q.1:Int))];exact⟨(k,1+i),rfl,m2,m3,.inr ⟨h4,by omega,by omega,fun j hj=>by rw [show a-(1+i)=a-1-i by omega];exact m4 j hj⟩⟩
    ·rw [Ae (by omega:¬(k:Int)>(q.1:Int))];exact⟨q,rfl,hq⟩
   ·rw [Ae (by omega:¬(k:Int)>=4),Ad]
    exact⟨q,rfl,hq⟩)
  (fun q hq=>by
   simp only [Ed];rw [Ae (by omega:¬((a:Int)-1-(a:Int))>=0),Ad]
   exact⟨_,rfl,q.1,q.2,rfl,hq⟩) (s:=(0,0)) ⟨by omega,by omega,.inl rfl⟩
 have e0:(((0:Nat):Int),((0:Nat):Int),(a:Int)-1-0)=((0:Int),(0:Int),(a:Int)-1):=by simp
 simp only [e0]at h1;exact⟨z,b,h1,h2⟩
def Sk:Nat->Nat->List UInt8->List UInt8
 |0,_,out=>out
 |n+1,b,out=>Sk n b (out++ [(out[out.length-b]?).getD 0])
def SX (out:List UInt8) (t:AJ):List UInt8:=if t.Back=0 then out++L t.Text else Sk t.Size.toNat t.Back.toNat out
def EM (l:List AJ):List UInt8:=l.foldl SX []
def okT (out:List UInt8) (t:AJ):Prop:=(t.Back=0/\t.Size=0/\1<=(L t.Text).length/\(L t.Text).length<=31)\/(1<=t.Back/\t.Back<=(out.length:Int)/\1<=t.Size/\t.Size<=31/\L t.Text=[])
def zJ (l:List AJ):Prop:=∀(i:Nat) t,l[i]?=some t->okT (EM (l.take i)) t
theorem Nq (l:List AJ) (t:AJ):EM (l++ [t])=SX (EM l) t:=by unfold EM;rw [GO];rfl
theorem fG {l:List AJ} {t:AJ} (h:zJ l) (ht:okT (EM l) t):zJ (l++ [t]):=by
 intro i x hx;by_cases e:i<l.length
 ·rw [AP e]at hx;rw [HQ (by omega)];exact h i x hx
 ·have hi:=(Ah.1 hx).1;rw [Ag,Al]at hi;obtain rfl:i=l.length:=by omega
  rw [AR (A4 _),PA]at hx;simp only [Ds,Ao]at hx;rw [ON rfl,<-hx];exact ht
theorem zI {l:List AJ} {t:AJ} (h:zJ (l++ [t])):zJ l/\okT (EM l) t:=by
 refine⟨fun i x hx=>?_,?_⟩
 ·have hi:=(Ah.1 hx).1;have:=h i x (by rw [AP hi];exact hx);rw [HQ (by omega)]at this;exact this
 ·have:=h l.length t (by rw [AR (A4 _),PA];rfl);rw [ON rfl]at this;exact this
theorem aQ (S:List UInt8):∀(n a b:Nat),a+n<=S.length->1<=b->b<=a->(∀j,j<n->S[a-b+j]?=S[a+j]?)->Sk n b (S.take a)=S.take (a+n)
 |0,a,b,_,_,_,_=>rfl
 |n+1,a,b,h1,h2,h3,h4=>by
  rw [Sk];have hl:(S.take a).length=a:=by rw [AC];omega
  have e:((S.take a)[(S.take a).length-b]?).getD 0=S[a]'(by omega):=by
   rw [hl,List.getElem?_take_of_lt (by omega)];have:=h4 0 (by omega);rw [ES,ES]at this;rw [this,Ab (by omega)];rfl
  rw [e,<-Av (by omega),aQ S n (a+1) b (by omega) h2 (by omega) (fun j hj=>by
   have:=h4 (j+1) (by omega);rw [show a+1-b+j=a-b+(j+1) by omega,this];congr 1
   omega)]
  congr 1;omega
theorem m7:∀(n b:Nat) (out:List UInt8),(Sk n b out).length=out.length+n
 |0,_,_=>rfl
 |n+1,b,out=>by rw [Sk,m7];simp;omega
theorem Rr (s:ByteArray) (hs:(L s).length<=64):∀(n a:Nat) (out:List AJ),(L s).length-a<=n->a<=(L s).length->out.length<=a->zJ out->EM out=(L s).take a->∃l,Az (fun q:List AJ×Int=>Cm s q.1 q.2) (out,(a:Int))=some l/\zJ l/\EM l=L s/\l.length<=64
 |n,a,out,hn,ha,g,f,c=>by
  by_cases h:a<(L s).length
  ·obtain⟨z,b,h1,h2,h3,h4⟩:=yI s a ha hs
   match n,hn with
   |0,hn=>omega
   |n+1,hn=>
   have i:((L s).take a).length=a:=by rw [AC];omega
   rcases h4 with rfl|⟨h4,h5,h6,h7⟩
   ·
    have d:sub s (a:Int) ((a+1:Nat):Int)=some (s.extract a (a+1)):=ET s (by omega) (by omega);have hx:L (s.extract a (a+1))=[(L s)[a]]:=by
     rw [Hx,show a+1-a=1 by omega,Bq h];rfl
    have fresh:∃l,Az (fun q:List AJ×Int=>Cm s q.1 q.2) (out++ [AJ.mk 0 0 (s.extract a (a+1))],((a+1:Nat):Int))=some l/\zJ l/\EM l=L s/\l.length<=64:=
     Rr s hs n (a+1) _ (by omega) (by omega) (by simp;omega) (fG f (.inl ⟨rfl,rfl,by rw [hx];simp,by rw [hx];simp⟩)) (by
      rw [Nq];unfold SX
      rw [Ay rfl,c,hx,Av h])
    rcases Gq out with e|⟨out0,t0,e⟩
    ·subst e;obtain⟨l,f1,f2⟩:=fresh;refine⟨l,?_,f2⟩;rw [AB];have hb:Cm s [] (a:Int)=some (.inl ([AJ.mk 0 0 (s.extract a (a+1))],((a+1:Nat):Int))):=by
      simp only [Cm];rw [BK,Ac (by omega),Af,h1];simp only [Aa];rw [show decide ((((0:Nat):Int))>0)=false from rfl,Ad,ad1 (by omega),d,show decide ((sb (ln ([]:List AJ)) 1)>=0)=false from rfl];simp only [Ad,Aa];rw [CF (by simp)];rfl
     simp only [hb];exact f1
    ·rw [Gr]at e;subst e;obtain⟨ok0,okt0⟩:=zI f;have hol':out0.length+1<=a:=by simpa using g
     have o:ln (out0++ [t0])=((out0.length+1:Nat):Int):=by rw [Cq];simp
     have j:sb (ln (out0++ [t0])) 1=(out0.length:Int):=by rw [o,C1 (by omega) (by omega)];omega
     have k:gi (out0++ [t0]) (out0.length:Int)=some t0:=Gn _ _;by_cases hm:t0.Back=0/\(L t0.Text).length<31
     ·have m:Tf t0.Text (s.extract a (a+1))=some (t0.Text++s.extract a (a+1)):=G0 _ _ (by rw [hx];simp;omega);have hb:Cm s (out0++ [t0]) (a:Int)=some (.inl (out0++ [AJ.mk t0.Back t0.Size (t0.Text++s.extract a (a+1))],((a+1:Nat):Int))):=by
       simp only [Cm];rw [BK,Ac (by omega),Af,h1];simp only [Aa];rw [show decide ((((0:Nat):Int))>0)=false from rfl,Ad,ad1 (by omega),d,j,Ac (by omega),Af,k];simp only [Aa];rw [show(t0.Back==0)=true by simpa using hm.1,Af,BK,Ac (by omega)];simp only [Aa,Af];rw [m];simp only [Aa];rw [I2]
      have hX:L (t0.Text++s.extract a (a+1))=L t0.Text++ [(L s)[a]]:=by rw [D4,hx]
      obtain⟨l,f1,f2⟩:=Rr s hs n (a+1) (out0++ [AJ.mk t0.Back t0.Size (t0.Text++s.extract a (a+1))]) (by omega) (by omega) (by simp at g⊢;omega) (fG ok0 (by
       rcases okt0 with⟨k1,k2,k3,k4⟩|⟨k1,_⟩
       ·exact .inl ⟨k1,k2,by rw [hX];simp,by rw [hX];simp;omega⟩
       ·omega)) (by
       rw [Nq]at c⊢;unfold SX at c⊢;rw [Ay hm.1]at c⊢
       rw [hX,<-Ap,c,Av h])
      refine⟨l,?_,f2⟩;rw [AB];simp only [hb];exact f1
     ·have hb:Cm s (out0++ [t0]) (a:Int)=some (.inl (out0++ [t0]++ [AJ.mk 0 0 (s.extract a (a+1))],((a+1:Nat):Int))):=by
       simp only [Cm];rw [BK,Ac (by omega),Af,h1];simp only [Aa];rw [show decide ((((0:Nat):Int))>0)=false from rfl,Ad,ad1 (by omega),d,j,Ac (by omega),Af,k];simp only [Aa];have hj:(bif t0.Back==0 then some (decide (FJ t0.Text<31))else some false:Option Bool)=some false:=by
        by_cases e0:t0.Back=0
        ·rw [show(t0.Back==0)=true by simpa using e0,Af,BK,Ae (by
         intro hh;exact hm ⟨e0,by omega⟩)]
        ·rw [show(t0.Back==0)=false by simpa using e0];rfl
       rw [hj];simp only [Aa,Ad];rw [CF (by simp at g⊢;omega)];rfl
      obtain⟨l,f1,f2⟩:=fresh;refine⟨l,?_,f2⟩;rw [AB];simp only [hb];exact f1
   ·have hb:Cm s out (a:Int)=some (.inl (out++ [AJ.mk (b:Int) (z:Int) (bs [])],((a+z:Nat):Int))):=by
     simp only [Cm];rw [BK,Ac (by omega),Af,h1];simp only [Aa];rw [Ac (by omega),Af,CF (by simp;omega),C5 (by omega) (by omega)];simp only [Aa];congr 3
    obtain⟨l,f1,f2⟩:=Rr s hs n (a+z) (out++ [AJ.mk (b:Int) (z:Int) (bs [])]) (by omega) h3 (by simp;omega) (fG f (.inr ⟨by simp;omega,by rw [c,i];simp;omega,by simp;omega,by simp;omega,DV _⟩)) (by
     rw [Nq];unfold SX;rw [A0 (by simp;omega),c];simp only [B6]
     exact aQ (L s) z a b h3 h5 h6 h7)
    refine⟨l,?_,f2⟩;rw [AB];simp only [hb];exact f1
  ·have ea:a=(L s).length:=by omega
   refine⟨out,?_,f,by rw [c,ea,Ba],by omega⟩;rw [AB];have hb:Cm s out (a:Int)=some (.inr out):=by
    simp only [Cm];rw [BK,Ae (by omega),Ad]
   simp only [hb]
theorem AAK (s:ByteArray) (hs:(L s).length<=64):∃l,JL s=some l/\zJ l/\EM l=L s/\l.length<=64:=by
 obtain⟨l,h1,h2⟩:=Rr s hs (L s).length 0 [] (by omega) (by omega) (by simp) (fun i t h=>by simp at h) (by simp [EM]);refine⟨l,?_,h2⟩;unfold JL;rw [BK,Ae (by omega),Ad];have h1':Az (fun q:List AJ×Int=>Cm s q.1 q.2) ([],0)=some l:=h1;rw [h1'];rfl
end Go.TI
namespace Go.TI
open Go
def KO (t:AJ):List UInt8:=if t.Back=0 then UInt8.ofNat (L t.Text).length::L t.Text else [UInt8.ofNat (128+t.Size).toNat,UInt8.ofNat t.Back.toNat]
theorem tL {out:List UInt8} {t:AJ} (h:okT out t) (ho:out.length<=64):(KO t).length<=32:=by
 unfold KO
 rcases h with⟨h1,h2,h3,h4⟩|⟨h1,h2,h3,h4,h5⟩
 ·rw [Ay h1,Ax];omega
 ·rw [A0 (by omega)];simp
theorem ABH {out:List UInt8} {t:AJ} (h:okT out t):out.length<=(SX out t).length:=by
 unfold SX;split
 ·simp
 ·rw [m7];omega
theorem Ma {l:List AJ} (h:zJ l):∀i,i<=l.length->(EM (l.take i)).length<=(EM l).length:=by
 have step:∀i,i<l.length->(EM (l.take i)).length<=(EM (l.take (i+1))).length:=fun i hi=>by
  rw [Av hi,Nq];exact ABH (h i _ (Ab hi))
 intro i hi;have:∀k,i+k<=l.length->(EM (l.take i)).length<=(EM (l.take (i+k))).length:=by
  intro k
  induction k with
  |zero=>intro _;exact A4 _
  |succ k ih=>
   intro hk;exact Kg (ih (by omega)) (step (i+k) (by omega))
 have:=this (l.length-i) (by omega);rw [show i+(l.length-i)=l.length by omega,Ba]at this;exact this
theorem ACY (s:ByteArray) (hs:(L s).length<=64):∃l,zJ l/\EM l=L s/\l.length<=64/\((Ez s=some (bs (122::l.flatMap KO),true))\/Ez s=some (bs (114::L s),true)):=by
 obtain⟨l,h1,h2,h3,h4⟩:=AAK s hs;refine⟨l,h2,h3,h4,?_⟩;unfold Ez;rw [BK,Ae (by omega),Ad,h1];simp only [Aa];obtain⟨b,q1,q2⟩:=Br (body:=fun q:ByteArray×Int=>Eg l q.1 q.2) (fun z i=>(z,i)) l.length (fun i z=>L z=122::(l.take i).flatMap KO/\(L z).length<=1+32*i) (fun z=>L z=122::l.flatMap KO/\(L z).length<=3000)
  (fun z i hi hz=>by
   have hx:=Ab hi;have c:=h2 i _ hx;have a:=Ma h2 i (by omega);rw [h3]at a;have d:=tL c (by omega);have et:(l.take (i+1)).flatMap KO=(l.take i).flatMap KO++KO l[i]:=by rw [Av hi,OS];simp
   simp only [Eg,AQ,Ac hi,Af,AH,hx,Aa];rw [ad1 (by omega)];refine .inl ?_
   rcases c with⟨k1,k2,k3,k4⟩|⟨k1,k2,k3,k4,k5⟩
   ·rw [show(l[i].Back==0)=true by simpa using k1,Af,G0 _ _ (by rw [Vz];omega)];simp only [Aa];rw [G0 _ _ (by rw [D4,Ag,Vz];omega)];have hL:L (z++GS [IntKind.u8.wrap (FJ l[i].Text)]++l[i].Text)=L z++KO l[i]:=by
     rw [D4,D4,Ix];unfold KO;rw [Ay k1,BK];have:IntKind.u8.wrap ((L l[i].Text).length:Int)=((L l[i].Text).length:Int):=by rw [IntKind.wrap_u8];omega
     rw [this];simp
    refine⟨_,rfl,?_,?_⟩
    ·rw [hL,hz.1,et];rfl
    ·rw [hL,Ag];omega
   ·rw [show(l[i].Back==0)=false by simp;omega,Ad,C5 (by omega) (by omega),G0 _ _ (by rw [LI];simp;omega)];have hL:L (z++GS [IntKind.u8.wrap (128+l[i].Size),IntKind.u8.wrap l[i].Back])=L z++KO l[i]:=by
     rw [D4,Ix];unfold KO;rw [A0 (by omega)];have e1:IntKind.u8.wrap (128+l[i].Size)=128+l[i].Size:=by rw [IntKind.wrap_u8];omega
     have e2:IntKind.u8.wrap l[i].Back=l[i].Back:=by rw [IntKind.wrap_u8];omega
     rw [e1,e2];rfl
    refine⟨_,rfl,?_,?_⟩
    ·rw [hL,hz.1,et];rfl
    ·rw [hL,Ag];omega)
  (fun z hz=>⟨z,by simp only [Eg,AQ,Aw,A5,Ad],by rw [hz.1,Ba],by omega⟩) (s:=bs [122]) ⟨by rw [DV];rfl,by rw [DV];simp⟩
 have q1':Az (fun q:ByteArray×Int=>Eg l q.1 q.2) (bs [122],0)=some b:=q1;rw [q1'];simp only [Aa];have hb:b=bs (122::l.flatMap KO):=HK (by rw [q2.1,DV])
 cases decide (ad ((L s).length:Int) 1<=FJ b)with
 |false=>left;rw [hb];rfl
 |true=>
  right;simp only [Af];rw [G0 _ _ (by rw [DV];simp;omega)];simp only [Aa];have e:bs [114]++s=bs (114::L s):=HK (by rw [D4,DV,DV];rfl);rw [e]
theorem S3 (t:ByteArray) (ht:(L t).length<=10000):∀(l:List AJ) (a:Nat) (out:List AJ),(∀x∈l,∃o:List UInt8,okT o x/\o.length<=64)->(L t).drop a=l.flatMap KO->a<=(L t).length->out.length<=a->Az (fun q:List AJ×Int=>BY t q.1 q.2) (out,(a:Int))=some (.inl (out++l))
 |[],a,out,hl,h,ha,ho=>by
  have:(L t).length=a:=by
   have:=BH List.length h;rw [B5]at this;simp at this;omega
  rw [AB];have hb:BY t out (a:Int)=some (.inr (.inl out)):=by
   simp only [BY];rw [BK,Ae (by omega),Ad]
  simp only [hb];rw [As]
 |x::l,a,out,hl,h,ha,ho=>by
  obtain⟨o,k,n⟩:=hl x (by simp);rw [GP]at h;have c:=BH List.length h;rw [B5,Ag]at c
  rcases k with⟨k1,k2,k3,k4⟩|⟨k1,k2,k3,k4,k5⟩
  ·have he:KO x=UInt8.ofNat (L x.Text).length::L x.Text:=by unfold KO;rw [Ay k1]
   rw [he]at h c;rw [Ax]at c;have e:a<(L t).length:=by omega
   have d:=Bq e;rw [h,BA]at d
   injection d with hx hd
   have g:(((L t)[a]).toNat:Int)=((L x.Text).length:Int):=by rw [<-hx,Gf];omega
   have j:sub t ((a+1:Nat):Int) ((a+1+(L x.Text).length:Nat):Int)=some x.Text:=by
    rw [ET t (by omega) (by omega)];congr 1;apply HK;rw [Hx,<-hd,show a+1+(L x.Text).length-(a+1)=(L x.Text).length by omega,ON rfl]
   have hb:BY t out (a:Int)=some (.inl (out++ [AJ.mk 0 0 x.Text],((a+1+(L x.Text).length:Nat):Int))):=by
    simp only [BY];rw [BK,Ac (by omega),Af,Fc t e];simp only [Aa];rw [g,Nc (by omega) (by omega),Ae (by omega),Ad,ad1 (by omega),C5 (by omega) (by omega),Ae (by omega),Ad];rw [show((a+1:Nat):Int)+((L x.Text).length:Int)=((a+1+(L x.Text).length:Nat):Int) by omega,j];simp only [Aa];rw [CF (by simp;omega)];rfl
   have i:AJ.mk 0 0 x.Text=x:=by
    cases x with
    |mk b z u=>simp only at k1 k2;rw [k1,k2]
   rw [i]at hb;rw [AB];simp only [hb];have:=S3 t ht l (a+1+(L x.Text).length) (out++ [x]) (fun y hy=>hl y (by simp [hy])) (by rw [<-Cy,<-hd,E4 rfl]) (by omega) (by simp;omega);rw [Ap,Ce]at this;exact this
  ·have he:KO x=[UInt8.ofNat (128+x.Size).toNat,UInt8.ofNat x.Back.toNat]:=by unfold KO;rw [A0 (by omega)]
   rw [he]at h c;simp only [Ax,Bi]at c;have e:a<(L t).length:=by omega
   have d:=Bq e;rw [h]at d;simp only [BA,A7]at d
   injection d with hx hd
   have f:=Bq (show a+1<(L t).length by omega);rw [<-hd]at f
   injection f with hx2 hd2
   have g:(((L t)[a]).toNat:Int)=128+x.Size:=by rw [<-hx,Gf];omega
   have m:(((L t)[a+1]'(by omega)).toNat:Int)=x.Back:=by rw [<-hx2,Gf];omega
   have hb:BY t out (a:Int)=some (.inl (out++ [AJ.mk x.Back x.Size (bs [])],((a+2:Nat):Int))):=by
    simp only [BY];rw [BK,Ac (by omega),Af,Fc t e];simp only [Aa];rw [g,Nc (by omega) (by omega),Ac (by omega),Af,C5 (b:=2) (by omega) (by omega),Ae (by omega),Ad,ad1 (by omega),Fc t (by omega)];simp only [Aa];rw [m,Nc (by omega) (by omega),C1 (by omega) (by omega),CF (by simp;omega)];simp only [Aa];rw [show 128+x.Size-128=x.Size by omega];rfl
   have i:AJ.mk x.Back x.Size (bs [])=x:=by
    cases x with
    |mk b z u=>simp only at k5⊢;rw [show bs []=u from HK (by rw [k5,DV])]
   rw [i]at hb;rw [AB];simp only [hb];have:=S3 t ht l (a+2) (out++ [x]) (fun y hy=>hl y (by simp [hy])) (by rw [show a+2=a+1+1 by omega];exact hd2.symm) (by omega) (by simp;omega);rw [Ap,Ce]at this;exact this
def Gm (l:List UInt8):List Int:=l.map fun c=>(c.toNat:Int)
theorem vE (l:List UInt8):L (GS (Gm l))=l:=by
 rw [Ix,Gm,Es];have:((fun n:Int=>UInt8.ofNat n.toNat)∘fun c:UInt8=>(c.toNat:Int))=id:=by
  funext c;simp
 rw [this,Rg]
theorem yH (b:ByteArray):oQ b=Gm (L b):=rfl
theorem WB (x:AJ) (a:1<=x.Back) (hs:0<=x.Size/\x.Size<=31):∀(n k:Nat) (out:List UInt8),(k:Int)+n=x.Size->x.Back<=(out.length:Int)->out.length+n<=1000->Az (fun q:List Int×Int=>DC x q.1 q.2) (Gm out,(k:Int))=some (Gm (Sk n x.Back.toNat out))
 |0,k,out,hk,b,ho=>by
  rw [AB];have hb:DC x (Gm out) (k:Int)=some (.inr (Gm out)):=by
   simp only [DC];rw [Ae (by omega),Ad]
  simp only [hb];rfl
 |n+1,k,out,hk,b,ho=>by
  have c:ln (Gm out)=(out.length:Int):=by rw [Cq,Gm,Bu]
  have d:gi (Gm out) ((out.length:Int)-x.Back)=some (((out[out.length-x.Back.toNat]?).getD 0).toNat:Int):=by
   rw [show(out.length:Int)-x.Back=((out.length-x.Back.toNat:Nat):Int) by omega,AH,Gm,Bc,Ab (by omega)];rfl
  have hb:DC x (Gm out) (k:Int)=some (.inl (Gm (out++ [(out[out.length-x.Back.toNat]?).getD 0]),((k+1:Nat):Int))):=by
   simp only [DC];rw [Ac (by omega),Af,c,C1 (by omega) (by omega),d];simp only [Aa];rw [CF (by simp [Gm];omega),ad1 (by omega)];simp only [Aa,Gm,Cv,BN,sE]
  rw [AB];simp only [hb];rw [Sk];exact WB x a hs n (k+1) _ (by omega) (by simp;omega) (by simp;omega)
theorem qB (l:List AJ) (hl:l.length<=64) (a:zJ l) (h64:(EM l).length<=64):Az (fun q:List Int×Int=>DD l q.1 q.2) ([],0)=some (.inl (Gm (EM l))):=by
 obtain⟨b,h1,h2⟩:=Br (body:=fun q:List Int×Int=>DD l q.1 q.2) (fun(o:List UInt8) i=>(Gm o,i)) l.length (fun i o=>o=EM (l.take i)) (fun b=>b= .inl (Gm (EM l)))
  (fun o i hi ho=>by
   have hx:=Ab hi;have hk:=a i _ hx;have hm:=Ma a i (by omega);have d:=Ma a (i+1) (by omega);have et:EM (l.take (i+1))=SX o l[i]:=by rw [Av hi,Nq,ho]
   rw [<-ho]at hk hm;rw [et]at d
   have c:∀q:List UInt8,ln (Gm q)=(q.length:Int):=fun q=>by rw [Cq,Gm,Bu]
   simp only [DD,AQ,Ac hi,Af,AH,hx,Aa];refine .inl ⟨SX o l[i],?_,et.symm⟩
   rcases hk with⟨k1,k2,k3,k4⟩|⟨k1,k2,k3,k4,k5⟩
   ·rw [show(l[i].Back==0)=true by simpa using k1,Af,BK,El,Ac (by omega)];simp only [Aa,Ar,Ad];rw [show(l[i].Size !=0)=false by simp [k2],yH];simp only [Ad];have e1:ap 1 (Gm o) (Gm (L l[i].Text))=some (Gm (SX o l[i])):=by
     rw [CF (by simp [Gm];omega)];unfold SX;rw [Ay k1];simp [Gm]
    rw [e1];simp only [Aa,Co];rw [c,Ae (by omega),Ad,ad1 (by omega)]
   ·rw [show(l[i].Back==0)=false by simp;omega,Ad,c,El,Ac (by omega)];simp only [Aa,Ar,Ad];rw [El,Ac (by omega)];simp only [Aa,Ar,Ad];have e:seq l[i].Text (bs [])=true:=by rw [JE,AA];exact HK (by rw [k5,DV])
    rw [e];simp only [Ar,Ad];have e1:=WB l[i] k1 ⟨by omega,k4⟩ l[i].Size.toNat 0 o (by omega) k2 (by omega);rw [show((0:Nat):Int)=0 from rfl]at e1;rw [e1];have e2:Sk l[i].Size.toNat l[i].Back.toNat o=SX o l[i]:=by unfold SX;rw [A0 (by omega)]
    rw [e2];simp only [Aa,Co]
    rw [c,Ae (by omega),Ad,ad1 (by omega)])
  (fun o ho=>⟨.inl (Gm o),by simp only [DD,AQ,Aw,A5,Ad],by rw [ho,Ba]⟩) (s:=[]) rfl
 rw [<-h2];exact h1
theorem AAJ (s:ByteArray) (hs:(L s).length<=64):∃z,Ez s=some (z,true)/\Fw z=some (s,true)/\1<=(L z).length:=by
 obtain⟨l,h1,h2,h3,h4⟩:=ACY s hs;have fin:∀z:ByteArray,Ez s=some (z,true)->((Ez s).bind fun v3=>(bif(!v3.2)then(some true)else(some (!(seq v3.1 z))):Option (Bool)).bind fun j2=>bif j2 then(some ((bs []),false))else(some (s,true)))=some (s,true):=by
  intro z hz;rw [hz];have:seq z z=true:=by rw [JE];simp
  simp only [Aa,Ar,Ad,this]
 rcases h4 with h4|h4
 ·refine⟨_,h4,?_,by rw [DV];simp⟩;have hf:=fin _ h4;generalize hz:bs (122::l.flatMap KO)=z at h4 hf;have hL:L z=122::l.flatMap KO:=by rw [<-hz,DV]
  have d:(L z).length<=3000:=by
   have:∀m:List AJ,(∀x∈m,∃o:List UInt8,okT o x/\o.length<=64)->(m.flatMap KO).length<=32*m.length:=by
    intro m
    induction m with
    |nil=>intro _;simp
    |cons x m ih=>
     intro hm;obtain⟨o,f,g⟩:=hm x (by simp);have:=tL f g;have:=ih (fun y hy=>hm y (by simp [hy]));rw [GP,Ag,Ax];omega
   have:=this l (fun x hx=>by
    obtain⟨i,hi,rfl⟩:=AF hx;have hm:=Ma h1 i (by omega);rw [h2]at hm
    exact⟨_,h1 i _ (Ab hi),by omega⟩)
   rw [hL,Ax];omega
  unfold Fw;have a:1<=(L z).length:=by rw [hL];simp
  rw [BK,show(((L z).length:Int)==0)=false by rw [D9];omega,Ad];have b:sub z 1 ((L z).length:Int)=some (bs (l.flatMap KO)):=by
   rw [show(1:Int)=((1:Nat):Int)from rfl,ET z a (A4 _)];congr 1;apply HK;rw [Hx,DV,AZ (by rw [B5];omega),hL];rfl
  have c:sx z 0=some 122:=by
   rw [show(0:Int)=((0:Nat):Int)from rfl,Fc z (i:=0) a];have:(L z)[0]?=some 122:=by rw [hL];rfl
   rw [Ab (by omega)]at this
   injection this with this
   rw [this];rfl
  rw [b,c];simp only [Aa];rw [show((122:Int)==122)=true from rfl];simp only [Af];have h:(L (bs (l.flatMap KO))).length<=10000:=by rw [DV];rw [hL,Ax]at d;omega
  have e:=S3 (bs (l.flatMap KO)) h l 0 [] (fun x hx=>by
    obtain⟨i,hi,rfl⟩:=AF hx;have hm:=Ma h1 i (by omega);rw [h2]at hm
    exact⟨_,h1 i _ (Ab hi),by omega⟩) (by rw [DV];rfl) (by omega) (by simp)
  rw [show((0:Nat):Int)=0 from rfl,A7]at e;have ht:I5 (bs (l.flatMap KO))=some (l,true):=by
   unfold I5;rw [e];rfl
  have hp:Fq l=some (s,true):=by
   unfold Fq;rw [qB l h3 h1 (by rw [h2];omega),h2];simp only [Aa,Co];congr 2;apply HK;rw [vE]
  rw [ht];simp only [Aa];rw [hp];simp only [Aa,Ar,Ad,Co];exact hf
 ·refine⟨_,h4,?_,by rw [DV];simp⟩;have hf:=fin _ h4;generalize hz:bs (114::L s)=z at h4 hf;have hL:L z=114::L s:=by rw [<-hz,DV]
  unfold Fw;have a:1<=(L z).length:=by rw [hL];simp
  rw [BK,show(((L z).length:Int)==0)=false by rw [D9];omega,Ad];have b:sub z 1 ((L z).length:Int)=some s:=by
   rw [show(1:Int)=((1:Nat):Int)from rfl,ET z a (A4 _)];congr 1;apply HK;rw [Hx,AZ (by rw [B5];omega),hL];rfl
  have c:sx z 0=some 114:=by
   rw [show(0:Int)=((0:Nat):Int)from rfl,Fc z (i:=0) a];have:(L z)[0]?=some 114:=by rw [hL];rfl
   rw [Ab (by omega)]at this
   injection this with this
   rw [this];rfl
  rw [b,c];simp only [Aa];rw [show((114:Int)==122)=false from rfl];simp only [Ad,Aa,Co];exact hf
end Go.TI
namespace Go.TI
open Go
theorem Sm (a b:List ByteArray):Na (a++b)=Na a++Na b:=by unfold Na;rw [OS]
theorem uZ (a b:List Df):Gl (a++b)=Gl a++Gl b:=by unfold Gl;rw [OS]
def De (seq tx:Int) (T:List ByteArray):List Page:=T.mapIdx fun i t=>Page.mk 2 (seq+i) tx i T.length t
theorem wI (recs:List Df) (hr:recs.length<=1048576) (g:∀r∈recs,HB r=true):∃T:List ByteArray,Az (fun s:List ByteArray×Int=>H5 recs s.1 s.2) ([(bs [])],0)=some (.inl T)/\1<=T.length/\T.length<=1+recs.length/\Na T=Gl recs/\∀t∈T,(L t).length<=90:=by
 obtain⟨b,h1,T,h2,h3⟩:=Br (body:=fun s:List ByteArray×Int=>H5 recs s.1 s.2) (fun(o:List ByteArray) i=>(o,i)) recs.length
  (fun i T=>1<=T.length/\T.length<=1+i/\Na T=Gl (recs.take i)/\∀t∈T,(L t).length<=90)
  (fun b=>∃T:List ByteArray,b= .inl T/\1<=T.length/\T.length<=1+recs.length/\Na T=Gl recs/\∀t∈T,(L t).length<=90)
  (fun T i hi hT=>by
   obtain⟨h,j,d,f⟩:=hT;have hx:=Ab hi;obtain⟨t,t1,t2⟩:=dI (g _ (AK hi));have k:=yS (g _ (AK hi));rw [<-t2]at k;have et:Gl (recs.take (i+1))=Gl (recs.take i)++L t:=by rw [Av hi,uZ,t2];simp [Gl]
   rcases Gq T with e|⟨T0,last,e⟩
   ·subst e;simp at h
   rw [Gr]at e;subst e;have l:ln (T0++ [last])=((T0.length+1:Nat):Int):=by rw [Cq];simp
   rw [Ag,Al]at h j;have m:sb (ln (T0++ [last])) 1=(T0.length:Int):=by rw [l,C1 (by omega) (by omega)];omega
   have n:gi (T0++ [last]) (T0.length:Int)=some last:=Gn _ _;have p:=f last (by simp);rw [Sm]at d;simp only [H5,AQ,Ac hi,Af,AH,hx,Aa];rw [t1];simp only [Aa,Ar,Ad];rw [m,n];simp only [Aa];rw [BK,BK,C5 (by omega) (by omega),ad1 (by omega)];refine .inl ?_;by_cases c:((L last).length:Int)+((L t).length:Int)>90
   ·rw [Ac c,Af,CF (by simp;omega)];refine⟨T0++ [last]++ [t],rfl,by simp,by simp;omega,?_,fun x a=>?_⟩
    ·rw [Sm,Sm,et,d];simp [Na]
    ·rw [Aj,A6]at a
     rcases a with a|rfl
     ·exact f x a
     ·omega
   ·rw [Ae c,Ad,G0 _ _ (by omega)];simp only [Aa];rw [I2];refine⟨T0++ [last++t],rfl,by simp,by simp;omega,?_,fun x a=>?_⟩
    ·rw [Sm,et,<-d];simp [Na,D4]
    ·rw [Aj,A6]at a
     rcases a with a|rfl
     ·exact f x (by simp [a])
     ·rw [D4,Ag];omega)
  (fun T hT=>⟨_,by simp only [H5,AQ,Aw,A5,Ad],T,rfl,hT.1,hT.2.1,by rw [hT.2.2.1,Ba],hT.2.2.2⟩) (s:=[bs []]) ⟨by simp,by simp,by simp [Na,Gl,DV],fun t ht=>by rw [A6]at ht;rw [ht,DV];simp⟩
 subst h2;exact⟨T,h1,h3⟩
theorem wJ (seq tx:Int) (recs:List Df) (hr:recs.length<=1000) (a:∀r∈recs,HB r=true):∃T:List ByteArray,1<=T.length/\Na T=Gl recs/\(∀t∈T,(L t).length<=90)/\
  ((Nj seq tx recs=some (De seq tx T,true)/\T.length<=9/\1<=seq/\seq+T.length-1<=1000000000/\1<=tx/\tx<=1000000000)\/Nj seq tx recs=some ([],false)):=by
 obtain⟨T,h1,h2,h2',h3,h4⟩:=wI recs (by omega) a;refine⟨T,h2,h3,h4,?_⟩;unfold Nj;rw [h1];simp only [Aa,Co];rw [Cq];by_cases h9:(T.length:Int)>9
 ·rw [Ac h9];exact .inr rfl
 ·rw [Ae h9];simp only [Ad];rw [C1 (by omega) (by omega),C5 (by omega) (by omega),El,El];simp only [Aa];by_cases hs:1<=seq/\seq<=1000000000-(T.length:Int)+1
  ·rw [Ac hs];simp only [Ar,Ad];by_cases ht:1<=tx/\tx<=1000000000
   ·rw [Ac ht];simp only [Ar,Ad,Aa];left;obtain⟨b,q1,q2⟩:=Br (body:=fun s:List Page×Int=>H4 seq tx T s.1 s.2) (fun(o:List Page) i=>(o,i)) T.length (fun i o=>o=(De seq tx T).take i) (fun b=>b=De seq tx T)
     (fun o i hi ho=>by
      have hx:=Ab hi;have d:o.length<=i:=by rw [ho,AC];omega
      simp only [H4,AQ,Ac hi,Af,AH,hx,Aa];rw [C5 (by omega) (by omega),Cq,CF (by simp;omega)];simp only [Aa];rw [ad1 (by omega)];refine .inl ⟨_,rfl,?_⟩;have c:(De seq tx T)[i]?=some (Page.mk 2 (seq+i) tx i T.length T[i]):=by unfold De;rw [Ju,hx];rfl
      rw [Er,c,ho]
      rfl)
     (fun o ho=>⟨o,by simp only [H4,AQ,Aw,A5,Ad],by rw [ho,AZ];unfold De;rw [L0];exact A4 _⟩) (s:=[]) rfl
    have q1':Az (fun s:List Page×Int=>H4 seq tx T s.1 s.2) ([],0)=some b:=q1;rw [q1',q2];exact⟨rfl,by omega,by omega,by omega,ht.1,ht.2⟩
   ·rw [Ae ht];exact .inr rfl
  ·rw [Ae hs];exact .inr rfl
def Steps:Flash->List BD->Flash->Prop
 |f,[],g=>g=f
 |f,s::ss,g=>QC f s/\Steps (LJ f s) ss g
theorem aY:∀(f:Flash) (a b:List BD) (g:Flash),Steps f (a++b) g↔∃m,Steps f a m/\Steps m b g
 |f,[],b,g=>⟨fun h=>⟨f,rfl,h⟩,fun⟨m,h1,h2⟩=>by rw [h1]at h2;exact h2⟩
 |f,s::a,b,g=>by
  rw [BA];simp only [Steps,aY];constructor
  ·rintro⟨h1,m,h2,h3⟩;exact⟨m,⟨h1,h2⟩,h3⟩
  ·rintro⟨m,⟨h1,h2⟩,h3⟩;exact⟨h1,m,h2,h3⟩
theorem Vg:∀{f:Flash} {a:List BD} {g:Flash},Cg f->Steps f a g->Cg g
 |f,[],g,hf,h=>by rw [h];exact hf
 |f,s::a,g,hf,h=>Vg (AA6 hf h.1) h.2
theorem r7 {f:Flash} {a:List BD} {m:Flash} {s:BD} (h:Steps f a m) (hs:QC m s):Steps f (a++ [s]) (LJ m s):=(aY f a [s] _).2 ⟨m,h,hs,rfl⟩
theorem kZ {f g:Flash} {a:List BD} (hf:Cg f) (h:Steps f a g) (ha:a.length<=1048576):L7 f a=some (g,(a.length:Int)):=by
 unfold L7;rw [Gz f hf.cap];simp only [Aa];obtain⟨b,h1,h2⟩:=Br (body:=fun s:Int×List Block=>Fx a s.1 s.2) (fun(o:List Block) i=>(i,o)) a.length (fun i o=>Steps f (a.take i) (Flash.mk o)/\Steps (Flash.mk o) (a.drop i) g) (fun b=>b= .inl g.Blocks)
  (fun o i hi hs=>by
   have hx:=Ab hi;obtain⟨s1,s2⟩:=hs;rw [Bq hi]at s2;simp only [Fx,AQ,Ac hi,Af,AH,hx,Aa];have hP:=Vg hf s1
   rcases QJ hP a[i]with⟨k1,k2⟩|⟨k1,k2⟩
   ·rw [k2];simp only [Aa,Ar,Ad];rw [ad1 (by omega)];refine .inl ⟨(LJ (Flash.mk o) a[i]).Blocks,rfl,?_,s2.2⟩;rw [Av hi];exact r7 s1 k1
   ·exact absurd s2.1 k1)
  (fun o hs=>⟨.inl o,by simp only [Fx,AQ,Aw,A5,Ad],by
   have:=hs.2;rw [List.drop_length]at this
   rw [show g=Flash.mk o from this]⟩) (s:=f.Blocks) ⟨rfl,h⟩
 have h1':Az (fun s:Int×List Block=>Fx a s.1 s.2) (0,f.Blocks)=some b:=h1;rw [h1',h2];rfl
def IN:Flash->List BD->List Page->Flash->Prop
 |f,[],[],g=>g=f
 |f,s::ss,p::ps,g=>s.Kind=1/\mB f s.Block s.Leaf s.Text/\DX s.Text=some (p,true)/\IN (LJ f s) ss ps g
 |_,_,_,_=>False
theorem F9:∀{f:Flash} {ss:List BD} {ps:List Page} {g:Flash},IN f ss ps g->Steps f ss g/\ss.length=ps.length
 |f,[],[],g,h=>⟨h,rfl⟩
 |f,s::ss,p::ps,g,h=>⟨⟨.inl ⟨h.1,h.2.1⟩,(F9 h.2.2.2).1⟩,by rw [Ax,Ax,(F9 h.2.2.2).2]⟩
 |f,[],p::ps,g,h=>h.elim
 |f,s::ss,[],g,h=>h.elim
theorem X5:∀{f:Flash} {ss:List BD} {ps:List Page} {g:Flash} {b l:Int} {t:ByteArray} {p:Page},IN f ss ps g->mB g b l t->DX t=some (p,true)->IN f (ss++ [BD.mk 1 b l t]) (ps++ [p]) (prog g b l (Leaf.mk 1 t))
 |f,[],[],g,b,l,t,p,h,h1,h2=>by
  have:g=f:=h;subst this;exact⟨rfl,h1,h2,by unfold LJ;rfl⟩
 |f,s::ss,q::ps,g,b,l,t,p,h,h1,h2=>⟨h.1,h.2.1,h.2.2.1,X5 h.2.2.2 h1 h2⟩
 |f,[],q::ps,g,b,l,t,p,h,h1,h2=>h.elim
 |f,s::ss,[],g,b,l,t,p,h,h1,h2=>h.elim
def C3 (ss:List BD) (ps:List Page):List Ak:=List.zipWith (fun s p=>Ak.mk s.Block s.Leaf p) ss ps
def F8:Int->List Page->Prop
 |_,[]=>True
 |n,p::ps=>n<=p.Seq/\F8 (p.Seq+1) ps
theorem X6:∀{f:Flash} {ss:List BD} {ps:List Page} {g:Flash} {r:List Ak} {n:Int},Cg f->SR (Lq 0 f.Blocks) r->IN f ss ps g->(∀y∈r,y.Page.Seq<n)->F8 n ps->SR (Lq 0 g.Blocks) (r++C3 ss ps)
 |f,[],[],g,r,n,hf,a,h,hn,ha=>by
  have:g=f:=h;subst this;unfold C3;simpa using a
 |f,s::ss,p::ps,g,r,n,hf,a,h,hn,ha=>by
  obtain⟨h1,h2,h3,h4⟩:=h;obtain⟨k1,_,A,B,k2,k3,_⟩:=QP hf h2;have c:LJ f s=prog f s.Block s.Leaf (Leaf.mk 1 s.Text):=by unfold LJ;rw [Ay h1]
  rw [c]at h4;have b:SR (Lq 0 (prog f s.Block s.Leaf (Leaf.mk 1 s.Text)).Blocks) (r++ [Ak.mk s.Block s.Leaf p]):=by
   rw [k3 p (lH h3)]
   refine SR.add (by rw [<-k2];exact a) fun x hx=>?_
   have:=hn x hx;have:=ha.1;show x.Page.Seq<p.Seq;omega
  have:=X6 k1 b h4 (n:=p.Seq+1) (fun y hy=>by
   rw [Aj,A6]at hy
   rcases hy with hy|rfl
   ·have:=hn y hy;have:=ha.1;omega
   ·show p.Seq<p.Seq+1;omega) ha.2
  rw [Ap]at this;exact this
 |f,[],q::ps,g,r,n,hf,a,h,hn,ha=>h.elim
 |f,s::ss,[],g,r,n,hf,a,h,hn,ha=>h.elim
theorem Rd:∀{f:Flash} {ss:List BD} {ps:List Page} {g:Flash} (k:Nat),IN f ss ps g->∃m,IN f (ss.take k) (ps.take k) m
 |f,[],[],g,k,h=>⟨f,by simp [IN]⟩
 |f,s::ss,p::ps,g,0,h=>⟨f,rfl⟩
 |f,s::ss,p::ps,g,k+1,h=>by
  obtain⟨m,hm⟩:=Rd k h.2.2.2;exact⟨m,h.1,h.2.1,h.2.2.1,hm⟩
 |f,[],q::ps,g,k,h=>h.elim
 |f,s::ss,[],g,k,h=>h.elim
theorem yX {f g:Flash} {ss:List BD} {ps:List Page} (hg:Cg g) (h:IN f ss ps g) (hs:ss.length<=1000) (p:Page):
  (∃s g',He g ss p=some (g',ss++ [s],true)/\IN f (ss++ [s]) (ps++ [p]) g'/\Cg g'/\IG p/\QQ g s.Block s.Leaf)\/He g ss p=some (g,ss,false):=by
 by_cases hp:IG p
 ·obtain⟨t,t1,t2,t3,t4⟩:=u9 hp
  rcases V6 hg ss (by omega) p t1 (fun _=>⟨t2,t3⟩)with⟨_,b,l,q1,_,q2⟩|q
  ·left;have hm:mB g b l t:=by
    obtain⟨x,a1,a2,a3,a4⟩:=q1;exact⟨x,a1,a2,a3,a4,t2,t3⟩
   exact⟨_,_,q2,X5 h hm t4,(QP hg hm).1,hp,q1⟩
  ·exact .inr q
 ·rcases V6 hg ss (by omega) p (y9 hp) (fun hh=>by cases hh)with⟨hh,_⟩|q
  ·cases hh
  ·exact .inr q
end Go.TI
namespace Go.TI
open Go
theorem WD {f:Flash} (hf:Cg f) (ps:List Page) (rt:Bool) (a:ps.length<=9) (pre:List Page) (ss0:List BD) (g0:Flash) (ok0:Bool) (h0:ok0=true->IN f ss0 pre g0/\Cg g0/\ss0.length<=1):
  ∃ss ok,Az (fun s:List BD×Bool×Int×List Block=>Fg (ps,rt) s.1 s.2.1 s.2.2.1 s.2.2.2) (ss0,ok0,0,g0.Blocks)=some (ss,ok)/\(ok=true->ok0=true/\∃g,IN f ss (pre++ps) g/\Cg g/\∀p∈ps,IG p):=by
 obtain⟨b,h1,h2⟩:=Br (body:=fun s:List BD×Bool×Int×List Block=>Fg (ps,rt) s.1 s.2.1 s.2.2.1 s.2.2.2) (fun(o:List BD×Bool×List Block) i=>(o.1,o.2.1,i,o.2.2)) ps.length
  (fun i o=>o.2.1=true->ok0=true/\IN f o.1 (pre++ps.take i) (Flash.mk o.2.2)/\Cg (Flash.mk o.2.2)/\o.1.length<=i+1/\∀p∈ps.take i,IG p)
  (fun b=>b.2=true->ok0=true/\∃g,IN f b.1 (pre++ps) g/\Cg g/\∀p∈ps,IG p)
  (fun o i hi hs=>by
   obtain⟨ss,ok,bl⟩:=o;have hx:=Ab hi;simp only [Fg,AQ,Ac hi,Af,Aa]
   cases ok with
   |false=>
    simp only [Ad];exact .inr ⟨_,rfl,fun hh=>by cases hh⟩
   |true=>
    obtain⟨k0,k1,k2,k3,k4⟩:=hs rfl;simp only at k1 k2 k3;simp only [Af,AH,hx,Aa];refine .inl ?_
    rcases yX k2 k1 (by omega) ps[i]with⟨s,g',q1,q2,q3,q4,_⟩|q
    ·rw [q1];simp only [Aa];rw [ad1 (by omega)];refine⟨(ss++ [s],true,g'.Blocks),rfl,fun _=>⟨k0,?_,q3,by simp;omega,fun p hp=>?_⟩⟩
     ·rw [Av hi,<-Ap];exact q2
     ·rw [Av hi,Aj,A6]at hp
      rcases hp with hp|rfl
      ·exact k4 p hp
      ·exact q4
    ·rw [q];simp only [Aa];rw [ad1 (by omega)]
     exact⟨(ss,false,bl),rfl,fun hh=>by cases hh⟩)
  (fun o hs=>⟨(o.1,o.2.1),by simp only [Fg,AQ,Aw,A5,Ad,Aa],fun hh=>by
   obtain⟨k0,k1,k2,_,k4⟩:=hs hh;rw [Ba]at k1 k4
   exact⟨k0,_,k1,k2,k4⟩⟩) (s:=(ss0,ok0,g0.Blocks)) (fun hh=>by
    obtain⟨a1,a2,a3⟩:=h0 hh
    exact⟨hh,by rw [HG,As];exact a1,a2,by simpa using a3,fun p hp=>by simp at hp⟩)
 exact⟨b.1,b.2,h1,h2⟩
def E0 (d:AE) (c:Int) (text:ByteArray):List Page:=if L text=[]then []else [Page.mk 1 d.Seq c 0 1 text]
def MR (d:AE) (text:ByteArray):Int:=if L text=[]then d.Seq else d.Seq+1
theorem Su {d:AE} (hf:Cg d.Flash) (h:0<=d.Seq/\d.Seq<=1000000001) (recs:List Df) (b:recs≠ []) (hr:recs.length<=1000) (c:∀r∈recs,HB r=true) (text:ByteArray):
  E7 d recs text=some ([],false)\/∃steps T g last,recs[recs.length-1]?=some last/\E7 d recs text=some (steps,true)/\1<=T.length/\T.length<=9/\Na T=Gl recs/\(∀t∈T,(L t).length<=90)/\
   IN d.Flash steps (E0 d last.Chunk text++De (MR d text) d.Tx T) g/\Cg g/\∀p∈E0 d last.Chunk text++De (MR d text) d.Tx T,IG p:=by
 have i:0<recs.length:=Hz.2 b;obtain⟨last,a⟩:∃last,recs[recs.length-1]?=some last:=⟨_,Ab (by omega)⟩;unfold E7;rw [show(ln recs==0)=false by rw [D9,Cq];omega];simp only [Ad];have first:∃ss0 g0 ok0,(bif(!(seq text (bs [])))then(((gi recs (sb (ln recs) 1)).bind fun x1=>(He d.Flash [] (Page.mk 1 d.Seq x1.Chunk 0 1 text)).bind fun v1=>some (v1.2.1,v1.2.2,v1.1.Blocks):Option (List BD×Bool×List Block)).bind fun j2=>some (j2.1,(ad d.Seq 1),j2.2.1,j2.2.2))else(some ([],d.Seq,true,d.Flash.Blocks)):Option (List BD×Int×Bool×List Block))=some (ss0,MR d text,ok0,Flash.Blocks g0)/\(ok0=true->IN d.Flash ss0 (E0 d last.Chunk text) g0/\Cg g0/\ss0.length<=1/\∀p∈E0 d last.Chunk text,IG p):=by
  by_cases ht:L text=[]
  ·have:seq text (bs [])=true:=by rw [JE,AA];exact HK (by rw [ht,DV])
   rw [this];refine⟨[],d.Flash,true,?_,fun _=>⟨?_,hf,by simp,?_⟩⟩
   ·unfold MR;rw [Ay ht];rfl
   ·unfold E0;rw [Ay ht];rfl
   ·unfold E0;rw [Ay ht];intro p hp;cases hp
  ·have:seq text (bs [])=false:=by
    rw [JE,AU];intro e;exact ht (by rw [e,DV])
   rw [this];simp only [Be,Af];rw [Cq,C1 (by omega) (by omega),show(recs.length:Int)-1=((recs.length-1:Nat):Int) by omega,AH,a];simp only [Aa];rw [C5 (by omega) (by omega)];have e1:MR d text=d.Seq+1:=by unfold MR;rw [A0 ht]
   have e2:E0 d last.Chunk text=[Page.mk 1 d.Seq last.Chunk 0 1 text]:=by unfold E0;rw [A0 ht]
   rw [e1,e2]
   rcases yX (f:=d.Flash) (ss:=[]) (ps:=[]) hf rfl (by simp) (Page.mk 1 d.Seq last.Chunk 0 1 text)with⟨s,g',q1,q2,q3,q4,_⟩|q
   ·rw [q1];refine⟨_,g',true,rfl,fun _=>⟨q2,q3,by simp,fun p hp=>?_⟩⟩;rw [A6]at hp;rw [hp];exact q4
   ·rw [q];exact⟨_,d.Flash,false,rfl,fun hh=>by cases hh⟩
 obtain⟨ss0,g0,ok0,e0,h0⟩:=first
 rw [e0];simp only [Aa];obtain⟨T,t1,t2,t3,t4⟩:=wJ (MR d text) d.Tx recs hr c
 rcases t4 with⟨t4,t5,t6,t7,t8,t9⟩|t4
 ·rw [t4];simp only [Aa];obtain⟨ss,ok,q1,q2⟩:=WD hf (De (MR d text) d.Tx T) true (by unfold De;rw [L0];exact t5) (E0 d last.Chunk text) ss0 g0 ok0 (fun hh=>⟨(h0 hh).1,(h0 hh).2.1,(h0 hh).2.2.1⟩);rw [q1];simp only [Aa]
  cases ok with
  |false=>exact .inl rfl
  |true=>
   obtain⟨k0,g,k1,k2,k3⟩:=q2 rfl;refine .inr ⟨ss,T,g,last,a,rfl,t1,t5,t2,t3,k1,k2,fun p hp=>?_⟩
   rcases Aj.1 hp with hp|hp
   ·exact(h0 k0).2.2.2 p hp
   ·exact k3 p hp
 ·rw [t4];simp only [Aa];obtain⟨ss,ok,q1,q2⟩:=WD hf [] false (by simp) (E0 d last.Chunk text) ss0 g0 ok0 (fun hh=>⟨(h0 hh).1,(h0 hh).2.1,(h0 hh).2.2.1⟩);rw [q1];simp only [Aa];cases ok<;>exact .inl rfl
end Go.TI
namespace Go.TI
open Go
def It (r:List Ak) (c:Int):Option Ak:=(r.filter (HW c)).getLast?
noncomputable def Rm (t:ByteArray):Option ByteArray:=match Fw t with
 |some (s,true)=>some s
 |_=>none
noncomputable def CV (r:List Ak) (c:Int):Option ByteArray:=(It r c).bind fun y=>Rm y.Page.Text
theorem RQ {c:Int} {y:Ak}:HW c y=true↔y.Page.Kind=1/\y.Page.Tx=c:=by
 unfold HW;rw [An,Cw,Cw]
theorem Md {r:List Ak} {c:Int} {y:Ak} (h:It r c=some y):y∈r/\y.Page.Kind=1/\y.Page.Tx=c:=by
 have:=List.mem_of_getLast? h;rw [AM,RQ]at this;exact this
theorem Me (r:List Ak) (y:Ak) (c:Int):It (r++ [y]) c=if y.Page.Kind=1/\y.Page.Tx=c then some y else It r c:=by
 unfold It;rw [AS];by_cases e:y.Page.Kind=1/\y.Page.Tx=c
 ·rw [Ay e,BJ (RQ.2 e),DS,OD]
 ·rw [A0 e,B9 (fun hh=>e (RQ.1 hh)),DS,As]
theorem vI (r m:List Ak) (h:∀y∈m,y.Page.Kind≠1) (c:Int):It (r++m) c=It r c:=by
 unfold It;rw [AS,Cu.2 (fun y hy hh=>h y hy (RQ.1 hh).1),As]
theorem WY {α:Type} (l:List α) (p:α->Bool) {y:α} (h:l.getLast? =some y) (hp:p y=true):(l.filter p).getLast? =some y:=by
 rcases Gq l with e|⟨m,x,e⟩
 ·rw [e]at h;cases h
 ·rw [Gr]at e;rw [e,OD]at h
  injection h with h
  subst h;rw [e,AS,BJ hp,DS,OD]
theorem lW {r:List Ak} {c:Int} {y:Ak} (p:Ak->Bool) (h:It r c=some y) (hp:p y=true):It (r.filter p) c=some y:=by
 unfold It at h⊢;rw [Gi];have:r.filter (fun a=>HW c a&&p a)=(r.filter (HW c)).filter p:=by
  rw [Gi];congr 1;funext a;exact Bool.and_comm _ _
 rw [this];exact WY _ p h hp
theorem RH {r:List Ak} {c:Int} {o:Option Nat} (h:OI c r r.length o):It r c=o.bind fun j=>r[j]? :=by
 cases o with
 |none=>
  unfold It;have:r.filter (HW c)=[]:=by
   rw [Cu];intro y hy;obtain⟨j,hj,rfl⟩:=AF hy;have:=h j r[j] hj (Ab hj);rw [this];simp
  rw [this];rfl
 |some j=>
  obtain⟨h1,⟨y,h2,h3⟩,h4⟩:=h;simp only [Aa,h2];unfold It;obtain⟨e1,e2⟩:=Iu h2;rw [e1,AS,BJ h3];have:(r.drop (j+1)).filter (HW c)=[]:=by
   rw [Cu];intro z hz;obtain⟨k,hk,rfl⟩:=AF hz;rw [B5]at hk;rw [Rh];have:=h4 (j+1+k) _ (by omega) (by omega) (Ab (by omega));rw [this];simp
  rw [this,OD]
theorem pN {r:List Ak} (hr:r.length<=1048576) (c:Int):∃y ok,Kw r c=some (y,ok)/\It r c=(if ok=true then some y else none):=by
 obtain⟨o,h1,h2⟩:=aB r hr c;have h3:=RH h2
 cases o with
 |none=>exact⟨_,false,h1,h3⟩
 |some j=>
  obtain⟨_,⟨y,k1,_⟩,_⟩:=h2;refine⟨y,true,?_,by rw [h3];simp only [Aa,k1];rfl⟩;rw [h1];simp only [Jq,k1,Bb];rfl
theorem VW {r:List Ak} (hr:Iv r) (c:Int):∃u ok,JF r c=some (u,ok)/\CV r c=(if ok=true then some u else none):=by
 obtain⟨y,ok,h1,h2⟩:=pN hr.len c;unfold JF CV;rw [h1,h2]
 cases ok with
 |false=>exact⟨_,_,rfl,rfl⟩
 |true=>
  have hy:=(Md (by rw [h2];rfl)).1;obtain⟨u,ok2,k1,_,_⟩:=Q8 y.Page.Text (by have:=hr.text y hy;omega);simp only [Aa,Ar,Ad,Cd];rw [k1];unfold Rm;rw [k1]
  cases ok2 with
  |false=>exact⟨_,_,rfl,rfl⟩
  |true=>exact⟨_,_,rfl,rfl⟩
structure Ih (r:List Ak):Prop where
 pages:Iv r
 inc:r.Pairwise fun x y=>x.Page.Seq<y.Page.Seq
 mu:nT r
def F6 (l:Vs) (c:Int):Prop:=0<c/\∃p∈l,c∈p.2
structure Ge (r:List Ak) (P:Int->Prop):Prop where
 data:∀c,P c->∃s,CV r c=some s
 dist:∀c c',P c->P c'->CV r c=CV r c'->c=c'
theorem Ge.mono {r:List Ak} {P Q:Int->Prop} (h:Ge r P) (hq:∀c,Q c->P c):Ge r Q:=⟨fun c hc=>h.data c (hq c hc),fun c c' hc hc'=>h.dist c c' (hq c hc) (hq c' hc')⟩
theorem Ge.congr {r r':List Ak} {P:Int->Prop} (h:Ge r P) (he:∀c,P c->CV r' c=CV r c):Ge r' P:=⟨fun c hc=>by rw [he c hc];exact h.data c hc,fun c c' hc hc' e=>h.dist c c' hc hc' (by rw [<-he c hc,<-he c' hc'];exact e)⟩
theorem Ge.metas {r m:List Ak} {P:Int->Prop} (h:Ge r P) (hm:∀y∈m,y.Page.Kind≠1):Ge (r++m) P:=h.congr fun c _=>by unfold CV;rw [vI r m hm]
theorem nY {r:List Ak} {P:Int->Prop} (h:Ge r P) {y:Ak} (hy:¬P y.Page.Tx):Ge (r++ [y]) P:=h.congr fun c hc=>by
 unfold CV;rw [Me,A0 (fun hh=>hy (by rw [hh.2];exact hc))]
theorem nZ {r:List Ak} {P:Int->Prop} (h:Ge r P) {y:Ak} (hy:Rm y.Page.Text=CV r y.Page.Tx):Ge (r++ [y]) P:=h.congr fun c hc=>by
 by_cases e:y.Page.Kind=1/\y.Page.Tx=c
 ·have:CV (r++ [y]) c=Rm y.Page.Text:=by unfold CV;rw [Me,Ay e];rfl
  rw [this,hy,e.2]
 ·unfold CV;rw [Me,A0 e]
theorem wT {r:List Ak} {P:Int->Prop} (h:Ge r P) {y:Ak} {s:ByteArray} (hk:y.Page.Kind=1) (hn:¬P y.Page.Tx) (ht:Rm y.Page.Text=some s) (hs:∀c,P c->CV r c≠some s):Ge (r++ [y]) (fun c=>P c\/c=y.Page.Tx):=by
 have b:CV (r++ [y]) y.Page.Tx=some s:=by unfold CV;rw [Me,Ay ⟨hk,rfl⟩];exact ht
 have a:∀c,P c->CV (r++ [y]) c=CV r c:=fun c hc=>by unfold CV;rw [Me,A0 (fun hh=>hn (by rw [hh.2];exact hc))]
 refine⟨fun c hc=>?_,fun c c' hc hc' e=>?_⟩
 ·rcases hc with hc|rfl
  ·rw [a c hc];exact h.data c hc
  ·exact⟨s,b⟩
 ·rcases hc with hc|rfl<;>rcases hc' with hc'|rfl
  ·exact h.dist c c' hc hc' (by rw [<-a c hc,<-a c' hc'];exact e)
  ·rw [a c hc,b]at e;exact absurd e (hs c hc)
  ·rw [a c' hc',b]at e;exact absurd e.symm (hs c' hc')
  ·rfl
theorem Ih.filter {r:List Ak} (h:Ih r) (p:Ak->Bool):Ih (r.filter p):=by
 refine⟨⟨by have:=BV p r;have:=h.pages.len;omega,fun y hy=>h.pages.text y (AM.1 hy).1,fun y hy=>h.pages.seq y (AM.1 hy).1,fun y hy=>h.pages.tx y (AM.1 hy).1,fun y hy=>h.pages.cnt y (AM.1 hy).1,fun y hy=>h.pages.part y (AM.1 hy).1⟩,h.inc.filter _,⟨fun y hy z hz=>h.mu.uniq y (AM.1 hy).1 z (AM.1 hz).1⟩⟩
theorem Ih.add {r:List Ak} (h:Ih r) {y:Ak} (hl:r.length<=1000000) (hb:IG y.Page) (hs:EI r<=y.Page.Seq) (hm:y.Page.Kind=2->∀z∈r,z.Page.Kind=2->z.Page.Tx=y.Page.Tx->z.Page.Part≠y.Page.Part):Ih (r++ [y]):=by
 obtain⟨b1,b2,b3,b4,b5,b6,b7⟩:=hb
 have all:∀{P:Ak->Prop},(∀z∈r,P z)->P y->∀z∈r++ [y],P z:=fun h1 h2 z hz=>by
  rw [Aj,A6]at hz
  rcases hz with hz|rfl
  ·exact h1 z hz
  ·exact h2
 refine⟨⟨by simp;omega,all h.pages.text b6,all h.pages.seq b2,all h.pages.tx b3,all h.pages.cnt b4,all h.pages.part b5⟩,?_,⟨fun u hu v hv k1 k2 e1 e2=>?_⟩⟩
 ·rw [Bo];refine⟨h.inc,HH _ _,fun u hu v hv=>?_⟩;rw [A6]at hv;rw [hv];have:=(S8 r).1 u hu;omega
 ·rw [Aj,A6]at hu hv
  rcases hu with hu|rfl<;>rcases hv with hv|rfl
  ·exact h.mu.uniq u hu v hv k1 k2 e1 e2
  ·exact absurd e2 (hm k2 u hu k1 e1)
  ·exact absurd e2.symm (hm k1 v hv k2 e1.symm)
  ·rfl
theorem ZG {r:List Ak} {y:Ak} (h:EI r<=y.Page.Seq):EI (r++ [y])=y.Page.Seq+1:=by rw [bM,Ay h]
theorem Ih.metas {r:List Ak} (h:Ih r) {t:Int} (ht:∀y∈r,y.Page.Kind=2->y.Page.Tx<t):∀(m:List Ak) (k:Nat),r.length+m.length<=1000000->(∀(i:Nat) y,m[i]?=some y->y.Page.Kind=2/\y.Page.Tx=t/\y.Page.Part=i/\y.Page.Seq=EI r+i/\IG y.Page)->k<=m.length->Ih (r++m.take k)/\EI (r++m.take k)=EI r+k
 |m,0,_,_,_=>by simpa using h
 |m,k+1,hl,hm,hk=>by
  obtain⟨ih1,ih2⟩:=Ih.metas h ht m k hl hm (by omega);have hx:m[k]?=some m[k]:=Ab (by omega);obtain⟨k1,k2,k3,k4,k5⟩:=hm k _ hx;rw [Av (by omega),<-Ap];refine⟨Ih.add ih1 (by simp;omega) k5 (by rw [ih2,k4];omega) (fun _ z hz a b=>?_),?_⟩
  ·rcases Aj.1 hz with hz|hz
   ·have:=ht z hz a;omega
   ·obtain⟨j,hj,rfl⟩:=AF hz;rw [AC]at hj;rw [Et];obtain⟨_,_,q3,_⟩:=hm j _ (Ab (by omega));omega
  ·rw [ZG (by rw [ih2,k4];omega),k4];omega
end Go.TI
