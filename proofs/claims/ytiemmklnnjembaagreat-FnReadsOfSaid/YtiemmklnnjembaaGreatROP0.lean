/- What sectors of a drawn device tell. No condition. -/
import Derived.Test.YtiemmklnnjembaaGreatROD
namespace Go.TI
open Go
def u32 (s:Int):Prop:=0<=s/\s<4294967296
theorem pE (s:Int) (hs:u32 s):∃v,A0 (fun s:Int×Int=>GC s.1 s.2) (s,0)=some v/\A0 (fun s:Int×Int=>GJ s.1 s.2) (s,0)=some v/\u32 v:=
 jH (body:=fun s:Int×Int=>GC s.1 s.2) (body':=fun s:Int×Int=>GJ s.1 s.2) (fun(s:Int) i=>(s,i)) 8 (fun _ s=>u32 s) u32
  (fun s i hi hs=>by
   simp only [GC,GJ];rw [Ad (by omega:(i:Int)<8),Ag,Ag,an1 hs.1 hs.2,<-ABV hs.1 hs.2];refine⟨rfl,.inl ?_⟩;have hw:u32 (IntKind.u32.wrap (Int.tdiv s 2)):=by rw [IntKind.wrap_u32];constructor<;>omega
   cases Int.tmod s 2==1
   ·exact⟨_,by rw [Ae,ad1 (by omega)],hw⟩
   ·exact⟨_,by rw [Ag,ad1 (by omega)],AAG _ _⟩)
  (fun s hs=>by
   simp only [GC,GJ]
   exact⟨rfl,s,rfl,hs⟩) (s:=s) hs
theorem pD (s:Int) (t:ByteArray) (hs:u32 s) (ht:(L t).length<=9223372036854775806):∃v,Nl s t=some v/\Nw s t=some v/\u32 v:=by
 obtain⟨v,h1,h2,h3⟩:=jH (body:=fun s:Int×Int=>HN t s.1 s.2) (body':=fun s:Int×Int=>HY t s.1 s.2) (fun(s:Int) i=>(s,i)) (L t).length (fun _ s=>u32 s) u32
  (fun s i hi hs=>by
   obtain⟨v,h1,h2,h3⟩:=pE (xr s (IntKind.u32.wrap ((L t)[i]).toNat)) (AAG _ _);simp only [HN,HY];rw [Ad (by rw [BJ];omega:(i:Int)<FZ t),Ag,Ag,Fv t hi,Aa,Aa,h1,h2]
   exact⟨rfl,.inl ⟨v,by rw [Aa,ad1 (by omega)],h3⟩⟩)
  (fun s hs=>by
   simp only [HN,HY];rw [Af (by rw [BJ];omega:¬((L t).length:Int)<FZ t),Ae,Ae]
   exact⟨rfl,s,rfl,hs⟩) (s:=s) hs
 unfold Nl Nw;rw [h1,h2];exact⟨v,rfl,rfl,h3⟩
theorem kW (t:ByteArray) (ht:(L t).length<=9223372036854775806):∃v,Lx t=some v/\RA t=some v/\u32 v:=by
 obtain⟨v,h1,h2,h3⟩:=pD 4294967295 t ⟨by omega,by omega⟩ ht;unfold Lx RA;rw [h1,h2];exact⟨v,rfl,rfl,h3⟩
def four (v:Int):ByteArray:=Hh [(IntKind.u8.wrap (Int.fdiv v (2^(min (24:Int).toNat IntKind.u32.bits)))),(IntKind.u8.wrap (Int.fdiv v (2^(min (16:Int).toNat IntKind.u32.bits)))),(IntKind.u8.wrap (Int.fdiv v (2^(min (8:Int).toNat IntKind.u32.bits)))),(IntKind.u8.wrap v)]
theorem RH (v:Int):(L (four v)).length=4:=by rw [four,IA];rfl
theorem tV (t:ByteArray):Pr t=In t:=by
 unfold Pr In;by_cases h:(FZ t)>20000
 ·rw [Ad h];rfl
 ·rw [Af h,Ae,Ae];rw [BJ]at h;obtain⟨v,h1,h2,_⟩:=kW t (by omega);rw [h1,h2];rfl
theorem SD (t:ByteArray):(20000<(L t).length->In t=some (bs [],false))/\((L t).length<=20000->∃v,Lx t=some v/\In t=some (t++four v,true)):=by
 unfold In;rw [BJ];refine⟨fun h=>by rw [Ad (by omega),Ag],fun h=>?_⟩;obtain⟨v,h1,h2,_⟩:=kW t (by omega);rw [Af (by omega),Ae,h1];refine⟨v,rfl,?_⟩;have:JQ v=some (four v):=rfl;rw [Aa,this,Aa,GN _ _ (by rw [RH];omega),Aa]
theorem kT (t:ByteArray) (ht:(L t).length<=9223372036854775806):∃u ok,I2 t=some (u,ok)/\Mq t=some (u,ok)/\(ok=true->(L u).length<=20000/\∃v,Lx u=some v/\t=u++four v)/\(ok=false->u=bs []):=by
 unfold I2 Mq;have e4:sb (FZ t) 4=((L t).length:Int)-4:=by rw [BJ,C3 (by omega) (by omega)]
 rw [e4];by_cases h4:(L t).length<4
 ·rw [Ad (by omega:((L t).length:Int)-4<0),Ad (by rw [BJ];omega:FZ t<4)];exact⟨bs [],false,rfl,rfl,by simp,fun _=>rfl⟩
 ·rw [Af (by omega:¬((L t).length:Int)-4<0),Af (by rw [BJ];omega:¬FZ t<4)];simp only [Ae];have en:((L t).length:Int)-4=(((L t).length-4:Nat):Int):=by omega
  rw [en,BJ];have b:sub t 0 (((L t).length-4:Nat):Int)=some (t.extract 0 ((L t).length-4)):=Fo t (i:=0) (by omega) (by omega);have a:sub t (((L t).length-4:Nat):Int) ((L t).length:Int)=some (t.extract ((L t).length-4) (L t).length):=Fo t (by omega) (by omega);rw [b,a];simp only [Aa];have hu:(L (t.extract 0 ((L t).length-4))).length=(L t).length-4:=by rw [HD];simp
  obtain⟨k1,k2⟩:=SD (t.extract 0 ((L t).length-4));rw [tV];by_cases hb:20000<(L t).length-4
  ·rw [Ad (by omega:(((L t).length-4:Nat):Int)>20000),k1 (by omega)];exact⟨bs [],false,rfl,rfl,by simp,fun _=>rfl⟩
  ·obtain⟨v,h1,h2⟩:=k2 (by omega);rw [Af (by omega:¬(((L t).length-4:Nat):Int)>20000),h1,h2];have h3:JQ v=some (four v):=rfl;simp only [Ae,Aa,h3,As];have c:seq (t.extract ((L t).length-4) (L t).length) (four v)=seq (t.extract 0 ((L t).length-4)++four v) t:=by
    rw [OS,OS,DA,HD,HD,FI,AD,AD];have e1:List.take ((L t).length-((L t).length-4)) (List.drop ((L t).length-4) (L t))=(L t).drop ((L t).length-4):=Bc (by simp);have e2:List.take ((L t).length-4-0) (List.drop 0 (L t))=(L t).take ((L t).length-4):=by simp
    rw [e1,e2];constructor
    ·intro h;rw [<-h,Bu]
    ·intro h;have h':(L t).take ((L t).length-4)++L (four v)=(L t).take ((L t).length-4)++(L t).drop ((L t).length-4):=by rw [Bu];exact h
     exact(List.append_cancel_left h').symm
   rw [c]
   cases hs:seq (t.extract 0 ((L t).length-4)++four v) t with
   |false=>exact⟨bs [],false,rfl,rfl,by simp,fun _=>rfl⟩
   |true=>
    rw [Iy,AD]at hs;exact⟨_,true,rfl,rfl,fun _=>⟨by omega,v,h1,hs.symm⟩,by simp⟩
theorem IU (n:Nat) (h:n<=1099511627776):∃s,Hx (n:Int)=some s/\L s=Cp n:=by
 unfold Hx;obtain⟨m,o,h1,h2,h3,h4⟩:=Zn (body:=fun s:Int×List Int=>MB s.1 s.2) (fun _ _=>rfl) n [] (by simpa using h);rw [h1,Aa];have:IntKind.u8.wrap (m:Int)=m:=by rw [IntKind.wrap_u8];omega
 rw [this,CO (by simp only [Ao,Bm]at h3⊢;omega),Aa];refine⟨_,rfl,?_⟩;rw [IA,h4];simp
def AAP (t:ByteArray) (at_:Int) (r:Int×Int×Bool):Prop:=
 (r.2.2=false/\r.1=0/\r.2.1=0)\/(r.2.2=true/\∃(a b n:Nat),at_=a/\r.2.1=b/\r.1=n/\a<b/\b<=(L t).length/\n<=1000000000/\Cp n=((L t).drop a).take (b-a))
theorem UJ (l:List UInt8) (a k:Nat) (h:a+k<l.length):(l.drop a).take (k+1)=(l.drop a).take k++ [l[a+k]]:=by
 rw [A4 (by simp;omega),QP]
theorem cT (k:Nat) (h:k<5):(128:Nat)^k<=268435456:=by
 have:k<=4:=by omega
 calc 128^k<=128^4:=Nat.pow_le_pow_right (by omega) this
  _=268435456:=by decide
theorem Uc:∀ds:List UInt8,EI ds<128^ds.length
 |[]=>by simp [EI]
 |d::ds=>by
  have:=Uc ds;simp only [EI,Ax,TW];omega
theorem zJ (x k:Nat) (hx:x<128) (hk:k<5):shl .i64 (x:Int) (ml 7 (k:Int))=some ((x*128^k:Nat):Int):=by
 have h7:ml 7 (k:Int)=((7*k:Nat):Int):=by rw [Nq (by omega) (by omega)];omega
 unfold shl;rw [h7,A5 (by omega)];have e:(2:Int)^(min ((7*k:Nat):Int).toNat IntKind.i64.bits)=((128^k:Nat):Int):=by
  have hb:IntKind.i64.bits=64:=rfl;have h128:(128:Nat)^k=2^(7*k):=by rw [Nat.pow_mul]
  rw [hb,B7,Nat.min_eq_left (by omega),h128]
  norm_cast
 rw [e];have hp:=cT k hk;have hm:x*128^k<=128*268435456:=Yx (by omega) hp;have ec:(x:Int)*((128^k:Nat):Int)=((x*128^k:Nat):Int):=by norm_cast
 rw [ec,Ng (by omega) (by omega)]
theorem Z6 (x:Nat):Int.tmod (x:Int) 128=((x %128:Nat):Int):=rfl
theorem Kj (t:ByteArray) (at_:Int) (ht:(L t).length<=4611686018427387904) (p:oI at_):∃r,HQ t at_=some r/\JZ t at_=some r/\AAP t at_ r:=by
 have fails:∀(at_:Int),(at_<0\/((L t).length:Int)<=at_)->oI at_->JZ t at_=some (0,0,false):=by
  intro at_ h p;unfold JZ;rw [AG];simp only [FD];rw [Ad (by omega:(0:Int)<5),Ag];by_cases h0:at_>=0
  ·rw [Ad h0,Ag,BJ,C3 (by omega) (by omega),Af (by omega)];rfl
  ·rw [Af h0];rfl
 by_cases h5:0<=at_/\at_<(L t).length
 ·obtain⟨a,rfl⟩:=Dv h5.1;have ha:a<(L t).length:=by omega
  have key:∀(B1:Int×Int×Int->Option ((Int×Int×Int)⊕((Unit)⊕((Int×Int×Bool))))) (B2:Int×Int->Option ((Int×Int)⊕((Unit)⊕((Int×Int×Bool))))),(∀n sc i,B1 (n,sc,i)=Df t (a:Int) n sc i)->(∀n k,B2 (n,k)=FD t (a:Int) n k)->∀(m k:Nat),k+m=5->a+k<=(L t).length->(∀d∈((L t).drop a).take k,128<=d.toNat)->
    ∃r,(A0 B1 (((EI (((L t).drop a).take k):Nat):Int),((128^k:Nat):Int),((a+k:Nat):Int))=some r/\A0 B2 (((EI (((L t).drop a).take k):Nat):Int),(k:Int))=some r)/\(r= .inl ()\/∃q,r= .inr q/\AAP t (a:Int) q):=by
   intro B1 B2 u v m
   induction m with
   |zero=>
    intro k hk h6 hd;have f:k=5:=by omega
    subst f;refine⟨.inl (),⟨?_,?_⟩,.inl rfl⟩
    ·rw [AG];simp only [u,Df];rw [C6 (by omega) (by omega),Af (by omega:¬((a+5:Nat):Int)<(a:Int)+5)];cases decide (((a+5:Nat):Int)<FZ t)<;>rfl
    ·rw [AG];simp only [v,FD];rw [Af (by omega:¬((5:Nat):Int)<5)];rfl
   |succ m ih=>
    intro k hk h6 hd;rw [AG,AG B2];simp only [u,v,Df,FD];have f:k<5:=by omega
    rw [C6 (b:=5) (by omega) (by omega),Ad (by omega:((a+k:Nat):Int)<(a:Int)+5),Ad (by omega:(k:Int)<5),Ad (by omega:(a:Int)>=0),BJ,C3 (by omega) (by omega)];by_cases w:a+k<(L t).length
    ·rw [Ad (by omega:((a+k:Nat):Int)<((L t).length:Int)),Ad (by omega:(a:Int)<((L t).length:Int)-k)];have eak:ad (a:Int) (k:Int)=((a+k:Nat):Int):=by rw [C6 (by omega) (by omega)];omega
     simp only [Ag,Aa,Fv t w,eak];have hx:=fU ((L t)[a+k]);have g:=UJ (L t) a k w;have l:(((L t).drop a).take k).length=k:=by simp;omega
     have j:=M6 (((L t).drop a).take k) [(L t)[a+k]];rw [<-g,l]at j;have h7:=Uc (((L t).drop a).take k);rw [l]at h7;have hp:=cT k f;generalize a3:(L t)[a+k]=x at hx g j;simp only [EI,Nat.mul_zero,Fl]at j;have hw:IntKind.i64.wrap (x.toNat:Int)=x.toNat:=Ng (by omega) (by omega);have a1:x.toNat %128*128^k<=127*268435456:=Yx (by omega) hp;have emul:ml ((x.toNat %128:Nat):Int) ((128^k:Nat):Int)=((x.toNat %128*128^k:Nat):Int):=by
      have ec:((x.toNat %128:Nat):Int)*((128^k:Nat):Int)=((x.toNat %128*128^k:Nat):Int):=by norm_cast
      rw [Nq (by rw [ec];omega) (by rw [ec];omega),ec]
     have enew:ad (((EI (((L t).drop a).take k):Nat)):Int) ((x.toNat %128*128^k:Nat):Int)=((EI (((L t).drop a).take (k+1)):Nat):Int):=by
      rw [C6 (by omega) (by omega),j,pJ (128^k)];omega
     rw [hw,Z6,zJ _ k (by omega) f];simp only [Aa,emul,enew];by_cases o:x.toNat<128
     ·rw [Ad (by omega:(x.toNat:Int)<128),Af (by omega:¬(x.toNat:Int)>=128)];simp only [Ag,Ae];have ek1:ad ((a+k:Nat):Int) 1=((a+k+1:Nat):Int):=ad1 (by omega);have c:=Zm (((L t).drop a).take k) x hd o;rw [<-g]at c;have h8:(((L t).drop a).take k≠ [])↔0<k:=by
       rw [<-HF,l]
      rw [h8]at c;have y:sub t (a:Int) ((a+k+1:Nat):Int)=some (t.extract a (a+k+1)):=Fo t (by omega) (by omega);rw [ek1,y];by_cases a2:EI (((L t).drop a).take (k+1))>1000000000
      ·rw [Ad (by omega:((EI (((L t).drop a).take (k+1)):Nat):Int)>1000000000)];refine⟨.inr (0,0,false),⟨rfl,?_⟩,.inr ⟨_,rfl,.inl ⟨rfl,rfl,rfl⟩⟩⟩;cases(x.toNat:Int)==0
       ·rfl
       ·cases decide ((k:Int)>0)<;>rfl
      ·rw [Af (by omega:¬((EI (((L t).drop a).take (k+1)):Nat):Int)>1000000000)];obtain⟨s,h9,a0⟩:=IU (EI (((L t).drop a).take (k+1))) (by omega);simp only [Ae,Aa,h9];have z:seq s (t.extract a (a+k+1))=decide (¬(x.toNat=0/\0<k)):=by
        rw [OS,a0,HD,show a+k+1-a=k+1 by omega,FI,AD,AD];exact c
       rw [z];by_cases hz:x.toNat=0/\0<k
       ·rw [Af (fun e=>e hz)];refine⟨.inr (0,0,false),⟨rfl,?_⟩,.inr ⟨_,rfl,.inl ⟨rfl,rfl,rfl⟩⟩⟩;have:((x.toNat:Int)==0)=true:=by rw [hz.1];rfl
        rw [this,Ad (by omega:(k:Int)>0)];rfl
       ·rw [Ad hz];refine⟨.inr (((EI (((L t).drop a).take (k+1)):Nat):Int),((a+k+1:Nat):Int),true),⟨rfl,?_⟩,.inr ⟨_,rfl,.inr ⟨rfl,a,a+k+1,_,rfl,rfl,rfl,by omega,by omega,by omega,?_⟩⟩⟩
        ·by_cases h4:x.toNat=0
         ·have:((x.toNat:Int)==0)=true:=by rw [h4];rfl
          rw [this,Af (by omega:¬(k:Int)>0)];rfl
         ·have:((x.toNat:Int)==0)=false:=by simpa using h4
          rw [this];rfl
        ·rw [show a+k+1-a=k+1 by omega];exact c.2 hz
     ·rw [Af (by omega:¬(x.toNat:Int)<128),Ad (by omega:(x.toNat:Int)>=128)];simp only [Ag,Ae];have e1:ml ((128^k:Nat):Int) 128=((128^(k+1):Nat):Int):=by
       rw [Nq (by omega) (by omega),TW];norm_cast
      have e2:ad ((a+k:Nat):Int) 1=((a+(k+1):Nat):Int):=ad1 (by omega);have e3:ad (k:Int) 1=((k+1:Nat):Int):=ad1 (by omega);rw [e1,e2,e3]
      exact ih (k+1) (by omega) (by omega) (by
       rw [g];intro d hd'
       rcases Al.1 hd' with hd'|hd'
       ·exact hd d hd'
       ·simp at hd';subst hd';omega)
    ·rw [Af (by omega:¬((a+k:Nat):Int)<((L t).length:Int)),Af (by omega:¬(a:Int)<((L t).length:Int)-k)];exact⟨.inl (),⟨rfl,rfl⟩,.inl rfl⟩
  obtain⟨r,⟨h1,h2⟩,h3⟩:=key (fun s=>Df t (a:Int) s.1 s.2.1 s.2.2) (fun s=>FD t (a:Int) s.1 s.2) (fun _ _ _=>rfl) (fun _ _=>rfl) 5 0 rfl (by omega) (by simp);unfold HQ JZ;have hw:BN (a:Int) 0 (FZ t)=some true:=by
   unfold BN;rw [Ad (by omega:(a:Int)>=0),Ag,BJ,Ad (by omega)]
  rw [hw];simp only [Aa,As,Ae];simp only [Ib,EI,Nat.pow_zero,Fl]at h1 h2;rw [show((0:Nat):Int)=0 from rfl,show((1:Nat):Int)=1 from rfl]at h1;rw [show((0:Nat):Int)=0 from rfl]at h2;rw [h1,h2]
  rcases h3 with rfl|⟨q,rfl,h3⟩
  ·exact⟨_,rfl,rfl,.inl ⟨rfl,rfl,rfl⟩⟩
  ·exact⟨q,rfl,rfl,h3⟩
 ·have hf:=fails at_ (by omega) p;refine⟨(0,0,false),?_,hf,.inl ⟨rfl,rfl,rfl⟩⟩;unfold HQ;by_cases h0:0<=at_/\at_<=(L t).length
  ·have hw:BN at_ 0 (FZ t)=some true:=by
    unfold BN;rw [Ad (by omega:at_>=0),Ag,BJ,Ad (by omega)]
   rw [hw];simp only [Aa,As,Ae];rw [AG];simp only [Df];rw [Af (by rw [BJ];omega:¬at_<FZ t)];rfl
  ·have hw:BN at_ 0 (FZ t)=some false:=by
    unfold BN;by_cases h1:at_>=0
    ·rw [Ad h1,Ag,BJ,Af (by omega)]
    ·rw [Af h1,Ae]
   rw [hw];rfl
end Go.TI
namespace Go.TI
open Go
theorem kF:OE=BN:=rfl
theorem E8 {α:Type} {l:List α} {i:Int} {x:α} (h:gi l i=some x):0<=i/\l[i.toNat]?=some x:=by
 unfold gi at h;split at h
 ·exact⟨by assumption,h⟩
 ·cases h
def eQ (f:Flash):Prop:=f.Blocks.length<=1048576/\∀b∈f.Blocks,b.Leaves.length<=1048576
theorem Wk (x a b:Int):BN x a b=some (decide (a<=x)&&decide (x<=b)):=by
 unfold BN;by_cases h:x>=a
 ·rw [Ad h,Ag,CS]
 ·rw [Af h,Ae,Bool.false_and]
end Go.TI
namespace Go.TI
open Go
theorem SF (p:Page):∃v,Io p=some v/\Ps p=some v/\(v=true->(p.Kind=1\/p.Kind=2)/\(1<=p.Seq/\p.Seq<=1000000000)/\(1<=p.Tx/\p.Tx<=1000000000)/\(1<=p.Count/\p.Count<=9)/\(0<=p.Part/\p.Part<p.Count)/\FZ p.Text<=90):=by
 unfold Io Ps;rw [kF];simp only [Wk,Aa];by_cases h1:1<=p.Seq/\p.Seq<=1000000000
 ·by_cases h2:1<=p.Tx/\p.Tx<=1000000000
  ·by_cases h3:1<=p.Count/\p.Count<=9
   ·have e:sb p.Count 1=p.Count-1:=C3 (by omega) (by omega);rw [e];by_cases h4:0<=p.Part/\p.Part<=p.Count-1
    ·by_cases h5:FZ p.Text>90
     ·refine⟨false,?_,?_,by simp⟩
      ·cases hk:(decide (1<=p.Kind)&&decide (p.Kind<=2))<;>simp [h1,h2,h3,h4,h5]
      ·simp [h1,h2,h3,h4,h5]
     ·by_cases k2:p.Kind=2
      ·exact⟨true,by simp [h1,h2,h3,h4,h5,k2],by simp [h1,h2,h3,h4,h5,k2],fun _=>⟨.inr k2,h1,h2,h3,⟨h4.1,by omega⟩,by omega⟩⟩
      ·by_cases k1:p.Kind=1
       ·exact⟨p.Count==1,by simp [h1,h2,h3,h4,h5,k1],by simp [h1,h2,h3,h4,h5,k1],fun _=>⟨.inl k1,h1,h2,h3,⟨h4.1,by omega⟩,by omega⟩⟩
       ·have hk:(decide (1<=p.Kind)&&decide (p.Kind<=2))=false:=by
         rw [DN,AZ,AZ];omega
        have e1:(p.Kind==1)=false:=by simpa using k1
        have e2:(p.Kind==2)=false:=by simpa using k2
        exact⟨false,by simp [hk],by simp [h1,h2,h3,h4,h5,e1,e2],by simp⟩
    ·have e4:(decide (0<=p.Part)&&decide (p.Part<=p.Count-1))=false:=by
      rw [DN,AZ,AZ];omega
     refine⟨false,?_,?_,by simp⟩
     ·cases hk:(decide (1<=p.Kind)&&decide (p.Kind<=2))<;>simp [h1,h2,h3,e4]
     ·simp [h1,h2,h3,e4]
   ·have e3:(decide (1<=p.Count)&&decide (p.Count<=9))=false:=by
     rw [DN,AZ,AZ];omega
    refine⟨false,?_,?_,by simp⟩
    ·cases hk:(decide (1<=p.Kind)&&decide (p.Kind<=2))<;>simp [h1,h2,e3]
    ·simp [h1,h2,e3]
  ·have e2:(decide (1<=p.Tx)&&decide (p.Tx<=1000000000))=false:=by
    rw [DN,AZ,AZ];omega
   refine⟨false,?_,?_,by simp⟩
   ·cases hk:(decide (1<=p.Kind)&&decide (p.Kind<=2))<;>simp [h1,e2]
   ·simp [h1,e2]
 ·have e1:(decide (1<=p.Seq)&&decide (p.Seq<=1000000000))=false:=by
   rw [DN,AZ,AZ];omega
  refine⟨false,?_,?_,by simp⟩
  ·cases hk:(decide (1<=p.Kind)&&decide (p.Kind<=2))<;>simp [e1]
  ·simp [e1]
def YX:Page:=Page.mk 0 0 0 0 0 (bs [])
theorem GI (u:ByteArray) (a:Int) (hu:(L u).length<=20000) (ha:oI a):DW (E7.mk u a true)=some (0,E7.mk u a true):=by
 obtain⟨r,h1,_,_⟩:=Kj u a (by omega) ha;unfold DW;simp only [h1,Aa,Ag]
theorem IT (u:ByteArray) (a:Int) (hu:(L u).length<=20000) {r:Int×Int×Bool} (h:HQ u a=some r):DW (E7.mk u a false)=some (bif r.2.2 then(r.1,E7.mk u r.2.1 false)else(0,E7.mk u a true)):=by
 unfold DW;simp only [h,Aa,Ae];cases r.2.2<;>rfl
theorem Ot (l:List UInt8) {a b:Nat} (h:a<=b):l.drop a=(l.drop a).take (b-a)++l.drop b:=by
 have:=(Bu (b-a) (l.drop a)).symm;rw [Cz,show a+(b-a)=b by omega]at this;exact this
theorem Ts (p:Page) (u:ByteArray) (k:UInt8) (n1 n2 n3 n4:Nat) (hp:Io p=some true) (hk:p.Kind=(k.toNat:Int)) (h1:p.Seq=n1) (h2:p.Tx=n2) (h3:p.Part=n3) (h4:p.Count=n4)
  (b1:n1<=1000000000) (b2:n2<=1000000000) (b3:n3<=1000000000) (b4:n4<=1000000000) (hu:(L u).length<=20000) (e:L u=[k]++Cp n1++Cp n2++Cp n3++Cp n4++L p.Text):E0 p=In u:=by
 obtain⟨s1,q1,r1⟩:=IU n1 (by omega);obtain⟨s2,q2,r2⟩:=IU n2 (by omega);obtain⟨s3,q3,r3⟩:=IU n3 (by omega);obtain⟨s4,q4,r4⟩:=IU n4 (by omega);have hl:=Dn List.length e;simp only [Ai,Ao]at hl;have hb:L8 p.Kind=some (Hh [IntKind.u8.wrap p.Kind]):=rfl;have a:L (Hh [IntKind.u8.wrap p.Kind])=[k]:=by
  rw [IA,hk,IntKind.wrap_u8];have:=fU k;have e2:((k.toNat:Int) %256).toNat=k.toNat:=by omega
  simp only [BT,pK,e2,UInt8.ofNat_toNat]
 unfold E0;rw [hp];simp only [Aa,As,Ae,hb,h1,h2,h3,h4,q1,q2,q3,q4];rw [GN _ _ (by rw [a,r1];simp only [Ao];omega),Aa];rw [GN _ _ (by rw [DA,a,r1,r2];simp only [Ai,Ao];omega),Aa];rw [GN _ _ (by rw [DA,DA,a,r1,r2,r3];simp only [Ai,Ao];omega),Aa];rw [GN _ _ (by rw [DA,DA,DA,a,r1,r2,r3,r4];simp only [Ai,Ao];omega),Aa];rw [GN _ _ (by rw [DA,DA,DA,DA,a,r1,r2,r3,r4];simp only [Ai,Ao];omega),Aa];have:Hh [IntKind.u8.wrap p.Kind]++s1++s2++s3++s4++p.Text=u:=by
  apply If;rw [DA,DA,DA,DA,DA,a,r1,r2,r3,r4,e]
 rw [this]
 cases In u with
 |none=>rfl
 |some v=>rfl
theorem IV (t:ByteArray) (ht:(L t).length<=9223372036854775806):∃p ok,Ez t=some (p,ok)/\Ms t=some (p,ok)/\(ok=false->p=YX)/\(ok=true->Io p=some true):=by
 obtain⟨u,uok,k,m,n,o⟩:=kT t ht;unfold Ez Ms;rw [k,m];simp only [Aa];have o1:oI 1:=⟨by omega,by omega⟩
 cases uok with
 |false=>
  have:=o rfl;subst this;have hz:(L (bs [])).length<=20000:=by rw [Eh];simp
  simp only [Bk,Ag,Aa,GI _ _ hz o1];exact⟨YX,false,rfl,rfl,fun _=>rfl,by simp⟩
 |true=>
  obtain⟨f,v,hv,q⟩:=n rfl;simp only [As,Ae,Aa];by_cases he:(L u).length<1
  ·have h:seq u (bs [])=true:=by
    rw [OS,AD,Eh];exact AF (by omega)
   rw [Ad (by rw [BJ];omega:FZ u<1),h];simp only [Ag,GI _ _ f o1,Aa];exact⟨YX,false,rfl,rfl,fun _=>rfl,by simp⟩
  ·have h:seq u (bs [])=false:=by
    rw [OS,AZ,Eh];intro e;rw [e]at he;simp at he
   rw [Af (by rw [BJ];omega:¬FZ u<1),h];simp only [Ae];have four_:∀(B:Int×Int×Int×Int×Int×Int->Option ((Int×Int×Int×Int×Int×Int)⊕((Int×Int×Int×Int×Int)⊕((Page×Bool))))),(∀x y a b c d,B (x,y,a,b,c,d)=DH (u,true) x y a b c d)->
     ∃(a:Int) (m1 m2 m3 m4:Int) (bad:Bool),(∃c1 c2 c3,DW (E7.mk u 1 false)=some (m1,c1)/\DW c1=some (m2,c2)/\DW c2=some (m3,c3)/\DW c3=some (m4,E7.mk u a bad))/\
      A0 B (1,0,0,0,0,0)=some (bif bad then .inr (YX,false)else .inl (a,m1,m2,m3,m4))/\(bad=false->∃(a1 a2 a3 a4 n1 n2 n3 n4:Nat),m1=n1/\m2=n2/\m3=n3/\m4=n4/\a=a4/\1<a1/\a1<a2/\a2<a3/\a3<a4/\a4<=(L u).length/\n1<=1000000000/\n2<=1000000000/\n3<=1000000000/\n4<=1000000000/\
       Cp n1=((L u).drop 1).take (a1-1)/\Cp n2=((L u).drop a1).take (a2-a1)/\Cp n3=((L u).drop a2).take (a3-a2)/\Cp n4=((L u).drop a3).take (a4-a3)):=by
    intro B hB;obtain⟨r1,p1,q1,w1⟩:=Kj u 1 (by omega) o1;have g1:=IT u 1 f p1;rw [AG,hB];unfold DH;rw [Ad (by omega:(0:Int)<4),Ag,q1,Aa]
    rcases w1 with⟨w1,w2,w3⟩|⟨w1,a0',a1,n1,z0,z1,z2,z3,z4,z5,z6⟩
    ·rw [w1]at g1⊢;exact⟨1,0,0,0,0,true,⟨_,_,_,g1,GI u 1 f o1,GI u 1 f o1,GI u 1 f o1⟩,rfl,by simp⟩
    have ea0:a0'=1:=by omega
    subst ea0;rw [w1]at g1⊢;have x1:oI r1.2.1:=⟨by omega,by omega⟩;simp only [As,Ae,Ag]at g1⊢;rw [show((0:Int)==0)=true from rfl,Ag,show ad 0 1=1 from ad1 (i:=0) (by omega)];simp only;obtain⟨r2,p2,q2,y1⟩:=Kj u r1.2.1 (by omega) x1;have g2:=IT u r1.2.1 f p2;rw [AG,hB];unfold DH;rw [Ad (by omega:(1:Int)<4),Ag,q2,Aa]
    rcases y1 with⟨y1,_,_⟩|⟨y1,b0,a2,n2,y2,y3,y4,y5,y6,y7,y8⟩
    ·rw [y1]at g2⊢;exact⟨r1.2.1,r1.1,0,0,0,true,⟨_,_,_,g1,g2,GI u _ f x1,GI u _ f x1⟩,rfl,by simp⟩
    have eb:b0=a1:=by omega
    subst eb;rw [y1]at g2⊢;have x2:oI r2.2.1:=⟨by omega,by omega⟩;simp only [As,Ae,Ag]at g2⊢;rw [show((1:Int)==0)=false from rfl,Ae,show((1:Int)==1)=true from rfl,Ag,show ad 1 1=2 from ad1 (i:=1) (by omega)];simp only;obtain⟨r3,p3,q3,k1⟩:=Kj u r2.2.1 (by omega) x2;have g3:=IT u r2.2.1 f p3;rw [AG,hB];unfold DH;rw [Ad (by omega:(2:Int)<4),Ag,q3,Aa]
    rcases k1 with⟨k1,_,_⟩|⟨k1,c0,a3,n3,k2,k3,k4,k5,k6,k7,k8⟩
    ·rw [k1]at g3⊢;exact⟨r2.2.1,r1.1,r2.1,0,0,true,⟨_,_,_,g1,g2,g3,GI u _ f x2⟩,rfl,by simp⟩
    have ec:c0=a2:=by omega
    subst ec;rw [k1]at g3⊢;have x3:oI r3.2.1:=⟨by omega,by omega⟩;simp only [As,Ae,Ag]at g3⊢;rw [show((2:Int)==0)=false from rfl,Ae,show((2:Int)==1)=false from rfl,Ae,show((2:Int)==2)=true from rfl,Ag,show ad 2 1=3 from ad1 (i:=2) (by omega)];simp only;obtain⟨r4,p4,q4,l1⟩:=Kj u r3.2.1 (by omega) x3;have g4:=IT u r3.2.1 f p4;rw [AG,hB];unfold DH;rw [Ad (by omega:(3:Int)<4),Ag,q4,Aa]
    rcases l1 with⟨l1,_,_⟩|⟨l1,d0,a4,n4,l2,l3,l4,l5,l6,l7,l8⟩
    ·rw [l1]at g4⊢;exact⟨r3.2.1,r1.1,r2.1,r3.1,0,true,⟨_,_,_,g1,g2,g3,g4⟩,rfl,by simp⟩
    have ed:d0=a3:=by omega
    subst ed;rw [l1]at g4⊢;simp only [As,Ae,Ag]at g4⊢;rw [show((3:Int)==0)=false from rfl,Ae,show((3:Int)==1)=false from rfl,Ae,show((3:Int)==2)=false from rfl,Ae,show((3:Int)==3)=true from rfl,Ag,show ad 3 1=4 from ad1 (i:=3) (by omega)];simp only;rw [AG,hB];unfold DH;rw [Af (by omega:¬(4:Int)<4),Ae];exact⟨r4.2.1,r1.1,r2.1,r3.1,r4.1,false,⟨_,_,_,g1,g2,g3,g4⟩,rfl,fun _=>⟨b0,c0,d0,a4,n1,n2,n3,n4,z2,y4,k4,l4,l3,z3,y5,k5,l5,l6,z5,y7,k7,l7,z6,y8,k8,l8⟩⟩
   obtain⟨a,m1,m2,m3,m4,bad,⟨c1,c2,c3,f1,f2,f3,f4⟩,f5,f6⟩:=four_ (fun s:Int×Int×Int×Int×Int×Int=>DH (u,true) s.1 s.2.1 s.2.2.1 s.2.2.2.1 s.2.2.2.2.1 s.2.2.2.2.2) (fun _ _ _ _ _ _=>rfl);rw [f5];simp only [f1,f2,f3,f4,Aa]
   cases bad with
   |true=>exact⟨YX,false,rfl,rfl,fun _=>rfl,by simp⟩
   |false=>
    obtain⟨a1,a2,a3,a4,n1,n2,n3,n4,rfl,rfl,rfl,rfl,rfl,i1,i2,i3,i4,i5,j1,j2,j3,j4,s1,s2,s3,s4⟩:=f6 rfl;simp only [Ae,Aa,Cl];have r:sx u 0=some (((L u)[0]'(by omega)).toNat:Int):=Fv u (i:=0) (by omega);have j:sub u (a4:Int) (FZ u)=some (u.extract a4 (L u).length):=by rw [BJ];exact Fo u (by omega) (by omega)
    rw [r,j];simp only [Aa];have hk:=fU ((L u)[0]'(by omega));have hw:IntKind.i64.wrap (((L u)[0]'(by omega)).toNat:Int)=((L u)[0]'(by omega)).toNat:=Ng (by omega) (by omega);rw [hw];obtain⟨po,po1,po2,_⟩:=SF (Page.mk (((L u)[0]'(by omega)).toNat:Int) n1 n2 n3 n4 (u.extract a4 (L u).length));rw [po2];simp only [Aa]
    cases po with
    |false=>
     have:E0 (Page.mk (((L u)[0]'(by omega)).toNat:Int) n1 n2 n3 n4 (u.extract a4 (L u).length))=some (bs [],false):=by
      unfold E0;rw [po1];rfl
     rw [this];exact⟨YX,false,rfl,rfl,fun _=>rfl,by simp⟩
    |true=>
     have hT:L (u.extract a4 (L u).length)=(L u).drop a4:=by
      rw [HD];exact Bc (by simp)
     have g:L u=[(L u)[0]'(by omega)]++Cp n1++Cp n2++Cp n3++Cp n4++L (u.extract a4 (L u).length):=by
      rw [hT,s1,s2,s3,s4];have h0:L u=[(L u)[0]'(by omega)]++(L u).drop 1:=by
       have:=Bs (l:=L u) (i:=0) (by omega);simpa using this
      have d1:=Ot (L u) (a:=1) (b:=a1) (by omega);have d2:=Ot (L u) (a:=a1) (b:=a2) (by omega);have d3:=Ot (L u) (a:=a2) (b:=a3) (by omega);have d4:=Ot (L u) (a:=a3) (b:=a4) (by omega);simp only [Ap];rw [<-d4,<-d3,<-d2,<-d1];exact h0
     rw [Ts _ u ((L u)[0]'(by omega)) n1 n2 n3 n4 po1 rfl rfl rfl rfl rfl j1 j2 j3 j4 f g];obtain⟨v',hv',hs'⟩:=(SD u).2 f;rw [hv]at hv'
     injection hv' with hv'
     subst hv';rw [hs',Aa];have:seq (u++four v) t=true:=by rw [Iy,AD];exact q.symm
     simp only [As,Ae,Aa,this];exact⟨_,true,rfl,rfl,by simp,fun _=>po1⟩
end Go.TI
namespace Go.TI
open Go
def nl (l:List Block):Nat:=(l.map fun b=>b.Leaves.length).sum
def Po (f:Flash) (y:Ar):Prop:=∃b x,gi f.Blocks y.Block=some b/\gi b.Leaves y.Leaf=some x/\(x.Is==1)=true/\Ez x.Text=some (y.Page,true)
theorem Tr (f:Flash) (hf:eQ f) {i k:Nat} {b:Block} {x:Leaf} (hb:f.Blocks[i]?=some b) (hx:b.Leaves[k]?=some x):LX f i k=some (bif x.Is==1 then(x.Text,true)else(bs [],false)):=by
 have h1:=(Aj.1 hb).1;have h2:=(Aj.1 hx).1;have h3:=hf.1;have h4:=hf.2 b (AM hb);unfold LX;rw [C3 (by rw [Cu];omega) (by rw [Cu];omega),Wk,Cu,Ad (by omega:(0:Int)<=(i:Int)),Ad (by omega:(i:Int)<=(f.Blocks.length:Int)-1)];simp only [Aa,Lc,As,Ae,AN,hb];rw [C3 (by rw [Cu];omega) (by rw [Cu];omega),Wk,Cu,Ad (by omega:(0:Int)<=(k:Int)),Ad (by omega:(k:Int)<=(b.Leaves.length:Int)-1)];simp only [Aa,Lc,As,Ae,hx]
 cases h:x.Is==1 with
 |true=>
  have:(x.Is !=1)=false:=by simp [bne,h]
  simp [this]
 |false=>
  have:(x.Is !=1)=true:=by simp [bne,h]
  simp [this]
theorem QI (f:Flash) (hf:eQ f) (hT:∀b∈f.Blocks,∀x∈b.Leaves,(L x.Text).length<=1048576) (hn:nl f.Blocks<=1048576):
  ∃X,A0 (fun s:List Ar×Int=>DJ f s.1 s.2) ([],0)=some X/\A0 (fun s:Int×List Ar=>GK f s.1 s.2) (0,[])=some X/\X.length<=nl f.Blocks/\∀y∈X,Po f y:=by
 refine R3 (body:=fun s:List Ar×Int=>DJ f s.1 s.2) (body':=fun s:Int×List Ar=>GK f s.1 s.2) (fun s i=>(s,i)) (fun s i=>(i,s)) f.Blocks.length (fun i out=>out.length<=((f.Blocks.take i).map fun b=>b.Leaves.length).sum/\∀y∈out,Po f y) (fun X=>X.length<=nl f.Blocks/\∀y∈X,Po f y) ?_ ?_ (s:=[]) ⟨by simp,by simp⟩
 ·intro out i hi ⟨a,c⟩;have hb:f.Blocks[i]?=some f.Blocks[i]:=Ac hi;have hm:f.Blocks[i]∈f.Blocks:=AP _;have h:=ON (fun b:Block=>b.Leaves.length) f.Blocks i hi;have j:=M7 (fun b:Block=>b.Leaves.length) f.Blocks (i+1);unfold nl at hn;have l:=hf.1;refine .inl ?_;simp only [DJ,GK,Bb,Ad hi,Ag,AN,hb,Aa];obtain⟨u,q1,q2,q3⟩:=R3 (body:=fun s:List Ar×Int=>Ef f (i:Int) s.1 s.2) (body':=fun s:Int×List Ar=>HZ (i:Int) f.Blocks[i] s.1 s.2) (fun s i=>(s,i)) (fun s i=>(i,s)) f.Blocks[i].Leaves.length (fun k u=>u.length<=out.length+k/\∀y∈u,Po f y) (fun u=>u.length<=out.length+f.Blocks[i].Leaves.length/\∀y∈u,Po f y)
   (fun u k hk hu=>by
    have hx:f.Blocks[i].Leaves[k]?=some f.Blocks[i].Leaves[k]:=Ac hk;have e:f.Blocks[i].Leaves[k]∈f.Blocks[i].Leaves:=AP _;have m:=hf.2 _ hm
    have g:∀y:Ar,ap 72 u [y]=some (u++ [y]):=fun y=>CO (by simp only [Ao];omega)
    refine .inl ?_;obtain⟨p,ok,r1,r2,r3,r4⟩:=IV f.Blocks[i].Leaves[k].Text (by have:=hT _ hm _ e;omega);simp only [Ef,HZ,Bb,Ad hk,Ag,AN,hb,hx,Aa,Tr f hf hb hx,r2,g];have n:=hu.1
    cases d:f.Blocks[i].Leaves[k].Is==1 with
    |false=>
     obtain⟨p',ok',t1,_⟩:=IV (bs []) (by rw [Eh];simp);simp only [Ae,Aa,t1];refine⟨u,by rw [ad1 (by omega)],by cases ok<;>(simp only [Ag,Ae,Aa];rw [ad1 (by omega)]),by omega,hu.2⟩
    |true=>
     simp only [Ag,Aa,r1]
     cases ok with
     |false=>exact⟨u,by simp only [Ae];rw [ad1 (by omega)],by simp only [Ae,Aa];rw [ad1 (by omega)],by omega,hu.2⟩
     |true=>
      refine⟨u++ [Ar.mk i k p],by simp only [Ag];rw [ad1 (by omega)],by simp only [Ag,Aa];rw [ad1 (by omega)],by simp only [Ai,Ao];omega,fun y hy=>?_⟩
      rcases Al.1 hy with hy|hy
      ·exact hu.2 y hy
      ·rw [AA]at hy;subst hy
       exact⟨_,_,by simp only [AN];exact hb,by simp only [AN];exact hx,d,r1⟩)
   (fun u hu=>⟨u,by simp only [Ef,AN,hb,Aa,Bb,A3,A8,Ae],by simp only [HZ,Bb,A3,A8,Ae],hu⟩) (s:=out) ⟨by omega,c⟩
  rw [q1,q2];simp only [Aa];rw [ad1 (by omega)];exact⟨u,rfl,rfl,by omega,q3.2⟩
 ·intro out ⟨a,c⟩;refine⟨out,by simp only [DJ,Bb,A3,A8,Ae],by simp only [GK,Bb,A3,A8,Ae],?_,c⟩;rw [Bg]at a;exact a
theorem eK {γ:Type} {l:List γ} {i j:Int} {x y:γ} (h:gi l j=some y):∃z,gi (si l i x) j=some z:=by
 obtain⟨h1,h2⟩:=E8 h;have:=(Aj.1 h2).1;unfold gi;rw [Az h1];exact⟨_,Ac (by simp only [si,I9];exact this)⟩
theorem lP (l:List Ar) (k:Int):HO l k=(Bi (NE BG) 0 k l).map (Sum.map (fun s=>(s.2,s.1)) id):=by
 unfold HO Bi wW pZ
 cases hk:decide (k>0)with
 |false=>rfl
 |true=>
  simp only [Ag]
  cases h1:gi l (sb k 1)with
  |none=>cases h2:gi l k<;>simp
  |some x=>
   cases h2:gi l k with
   |none=>simp
   |some y=>
    simp only [Aa];have e:(decide (x.Page.Seq>y.Page.Seq))=NE BG y x:=rfl;rw [e]
    cases NE BG y x with
    |false=>rfl
    |true=>
     simp only [Ag,h1,h2,Aa];obtain⟨z,hz⟩:=eK (i:=k) (x:=x) h1;rw [hz];rfl
theorem zE {γ:Type} {l l':List γ} {i j:Int} (h:pZ l i j=some l'):l'.length=l.length:=by
 unfold pZ at h;obtain⟨x,_,h⟩:=Au.1 h;obtain⟨y,_,h⟩:=Au.1 h
 injection h with h
 subst h;simp [si]
theorem AAo {a:Int} {j:Int} {l r:List Ar} (h:A0 (fun s:Int×List Ar=>Bi (NE BG) a s.1 s.2) (j,l)=some r):r.length=l.length:=by
 refine sW (fun s:Int×List Ar=>s.2.length=l.length) (fun r=>r.length=l.length) ?_ ?_ (s:=(j,l)) rfl h
 ·rintro⟨j,m⟩ s' hm hb;simp only [Bi]at hb;obtain⟨c,_,hb⟩:=Au.1 hb
  cases c with
  |false=>cases hb
  |true=>
   simp only [Ag]at hb;obtain⟨m',h1,hb⟩:=Au.1 hb
   injection hb with hb
   injection hb with hb
   subst hb;exact(zE h1).trans hm
 ·rintro⟨j,m⟩ b hm hb;simp only [Bi]at hb;obtain⟨c,_,hb⟩:=Au.1 hb
  cases c with
  |false=>
   simp only [Ae]at hb
   injection hb with hb
   injection hb with hb
   subst hb;exact hm
  |true=>
   simp only [Ag]at hb;obtain⟨m',h1,hb⟩:=Au.1 hb;cases hb
theorem pG (f:Flash) (hf:eQ f) (hT:∀b∈f.Blocks,∀x∈b.Leaves,(L x.Text).length<=1048576) (hn:nl f.Blocks<=1048576):
  ∃r,EL f=some r/\Ia f=some r/\r.length<=nl f.Blocks/\(∀y∈r,Po f y)/\srt BG r:=by
 obtain⟨X,h1,h2,h3,h4⟩:=QI f hf hT hn;obtain⟨r,h5,h6,h7⟩:=YB BG X (by omega);obtain⟨r',h8,h9,h10⟩:=JY BG [] X [] (by simp only [Bm];omega);have hr:r'=r:=Qt BG h9 h6 (fun k=>by rw [h7 k,<-h10 k]);subst hr;refine⟨r',?_,?_,?_,?_,h6⟩
 ·unfold EL;rw [h1,Aa];simp only [A6,Aw,Bm,Kk]at h8;unfold Cv at h8;rw [show ad ((0:Nat):Int) 1=1 from rfl]at h8;have hc:A0 (fun s:List Ar×Int=>HP s.1 s.2) (X,1)=A0 (fun s:Int×List Ar=>Br (NE BG) ((0:Nat):Int) (X.length:Int) s.1 s.2) (1,X):=by
   refine jI (body:=fun s:Int×List Ar=>Br (NE BG) ((0:Nat):Int) (X.length:Int) s.1 s.2) (body':=fun s:List Ar×Int=>HP s.1 s.2) (fun s=>(s.2,s.1)) (fun s=>s.2.length=X.length) ?_ ?_ (1,X) rfl
   ·rintro⟨j,m⟩ hm;simp only at hm;simp only [HP,Br,Cu,hm]
    cases decide (j<(X.length:Int))with
    |false=>rfl
    |true=>
     simp only [Ag];rw [oE (body:=fun s:Int×List Ar=>Bi (NE BG) ((0:Nat):Int) s.1 s.2) (body':=fun s:List Ar×Int=>HO s.1 s.2) (fun s=>(s.2,s.1)) (fun s=>lP s.2 s.1) (j,m)];cases A0 (fun s:Int×List Ar=>Bi (NE BG) ((0:Nat):Int) s.1 s.2) (j,m)<;>rfl
   ·rintro⟨j,m⟩ s' hm hb;simp only [Br]at hb
    cases hc:decide (j<(X.length:Int))with
    |false=>rw [hc,Ae]at hb;cases hb
    |true=>
     rw [hc,Ag]at hb;obtain⟨m',h1,hb⟩:=Au.1 hb
     injection hb with hb
     injection hb with hb
     subst hb;exact(AAo h1).trans hm
  rw [hc];exact h8
 ·unfold Ia;rw [h2,Aa,h5];rfl
 ·rw [<-h7.len];exact h3
 ·exact fun y hy=>h4 y ((h7.mem).1 hy)
end Go.TI
namespace Go.TI
open Go
section
variable {α β σ S:Type}
theorem R4 {body:S->Option (S⊕List α)} (mkS:List α->Int->S) (g:Nat->α->α) (l0:List α)
  (h1:∀(i:Nat) (l:List α) x,l.length=l0.length->l[i]?=some x->l0[i]?=some x->body (mkS l (i:Nat))=some (.inl (mkS (l.set i (g i x)) ((i+1:Nat):Int))))
  (h2:∀l:List α,l.length=l0.length->body (mkS l (l0.length:Nat))=some (.inr l)):A0 body (mkS l0 0)=some (l0.mapIdx g):=by
 obtain⟨b,h3,h4⟩:=Bw (body:=body) mkS l0.length (fun i l=>l.length=l0.length/\∀j,l[j]?=if j<i then(l0[j]?).map (g j)else l0[j]?) (fun b=>b=l0.mapIdx g)
  (fun l i hi hs=>by
   obtain⟨hl,hs⟩:=hs;have a:l0[i]?=some l0[i]:=Ac hi;have hx:l[i]?=some l0[i]:=by rw [hs,A5 (A3 _),a]
   refine .inl ⟨_,h1 i l _ hl hx a,by rw [I9,hl],fun j=>?_⟩;rw [Cq];by_cases e:i=j
   ·subst e;rw [Az rfl,Az (by omega),Az (by omega),a];rfl
   ·rw [A5 e,hs];by_cases h:j<i
    ·rw [Az h,Az (by omega)]
    ·rw [A5 h,A5 (by omega)])
  (fun l hs=>⟨l,h2 l hs.1,by
   apply CR;intro j;rw [hs.2,J0];by_cases h:j<l0.length
   ·rw [Az h]
   ·rw [A5 h,Dl (by omega)]
    rfl⟩) (s:=l0) ⟨rfl,fun j=>by rw [A5 (by omega)]⟩
 rw [h3,h4]
end
abbrev Ks:=List BU
def dk:BU:=BU.mk true []
def Cj (K:Ks) (i:Int):BU:=(gi K i).getD dk
def Mo (k:BU) (j:Nat):Int:=(k.Kids[j]?).getD 0
def Nt (K:Ks) (i:Nat) (leaf:Bool) (n:Int):Bool:=bif leaf then decide (0<=n)else(n== -1||(decide (0<=n/\n<=(i:Int)-1)&&(Cj K n).Leaf))
def Do (K:Ks):Bool:=K.zipIdx.all fun z=>z.1.Kids.length==4&&z.1.Kids.all (Nt K z.2 z.1.Leaf)
def DX (K:Ks) (r:Int):Bool:=r== -1||(decide (0<=r/\r<(K.length:Int))&&!(Cj K r).Leaf)
def Py (K:Ks) (root:Int) (s:Nat):Int:=if root<0 then 0 else if Mo (Cj K root) (s/4)<0 then 0 else Mo (Cj K (Mo (Cj K root) (s/4))) (s %4)
def EN (K:Ks) (root:Int):List Int:=(List.range 16).map (Py K root)
theorem Ns {K:Ks} {i:Nat} (h:i<K.length):Cj K (i:Int)=K[i]:=by
 unfold Cj;rw [AN,Ac h];rfl
theorem MK {K:Ks} {i:Int} (h0:0<=i) (h:i<(K.length:Int)):gi K i=some (Cj K i):=by
 unfold Cj;rw [OA h0 h];rfl
theorem Ek (x a b:Int):BN x a b=some (decide (a<=x/\x<=b)):=by
 rw [Wk];congr 1;rw [FI];simp
theorem GO {K:Ks}:Do K=true↔∀i:Nat,i<K.length->(Cj K (i:Int)).Kids.length=4/\∀n∈(Cj K (i:Int)).Kids,Nt K i (Cj K (i:Int)).Leaf n=true:=by
 unfold Do;rw [Km];constructor
 ·intro h i hi;have:=h (K[i],i) (by rw [List.mem_zipIdx_iff_getElem?];exact Ac hi);rw [Aq,Km]at this;rw [Ns hi];exact⟨by simpa using this.1,this.2⟩
 ·intro h z hz;rw [List.mem_zipIdx_iff_getElem?]at hz;obtain⟨a,hz⟩:=Aj.1 hz;have:=h z.2 a;rw [Ns a,hz]at this;rw [Aq,Km];exact⟨by simpa using this.1,this.2⟩
theorem Ly (a:Arena) (ha:a.Knots.length<=1048576):F6 a=some (Do a.Knots):=by
 unfold F6;have h:=Wf (body:=fun s:Int=>D1 a s) a.Knots (fun i k=>k.Kids.length==4&&k.Kids.all (Nt a.Knots i k.Leaf)) (.inr false) (.inl ()) (by omega)
  (fun i k hk=>by
   have hi:=(Aj.1 hk).1;simp only [D1,Bb,Ad hi,Ag,AN,hk,Aa];by_cases h4:k.Kids.length=4
   ·have e1:(ln k.Kids !=4)=false:=by simp [ln,h4]
    have e2:(k.Kids.length==4)=true:=by simp [h4]
    simp only [e1,Ae,e2,CS];have q:=Wf (body:=fun s:Int=>D0 a (i:Int) k s) k.Kids (fun _ n=>Nt a.Knots i k.Leaf n) (.inr (.inr (.inr false))) (.inl ()) (by omega)
     (fun j n hn=>by
      have hj:=(Aj.1 hn).1;simp only [D0];rw [Ad (by omega:(j:Int)<4),Ag,AN,hn];simp only [Aa,Nt]
      cases hl:k.Leaf with
      |true=>
       simp only [Ag,As,Ae];by_cases h0:n<0
       ·rw [Ad h0,Af (by omega:¬0<=n)];rfl
       ·rw [Af h0,Ad (by omega:0<=n)];simp only [Ae,Aa,Ag];rw [ad1 (by omega)]
      |false=>
       simp only [Ae,Bk,Ag];by_cases h1:n= -1
       ·subst h1;simp only [bne_self_eq_false,Ae,Aa,BEq.rfl,Bool.true_or,Ag];rw [ad1 (by omega)]
       ·have e3:(n != -1)=true:=by simp [h1]
        have e4:(n== -1)=false:=by simp [h1]
        rw [e3,e4];simp only [Ag,Sa];rw [C3 (by omega) (by omega),Ek];simp only [Aa];by_cases h2:0<=n/\n<=(i:Int)-1
        ·rw [Ad h2];simp only [As,Ae];rw [MK h2.1 (by omega)];simp only [Aa,CS]
         cases(Cj a.Knots n).Leaf with
         |true=>simp only [As,Ae,Ag];rw [ad1 (by omega)]
         |false=>rfl
        ·rw [Af h2];rfl)
     (by simp only [D0];rw [Af (by omega:¬((k.Kids.length:Nat):Int)<4),Ae])
    rw [q];have hz:(k.Kids.zipIdx.all fun z=>Nt a.Knots i k.Leaf z.1)=k.Kids.all (Nt a.Knots i k.Leaf):=by
     rw [show(fun z:Int×Nat=>Nt a.Knots i k.Leaf z.1)=(Nt a.Knots i k.Leaf)∘Prod.fst from rfl,<-List.all_map];congr 1;simp
    simp only [Aa];rw [hz]
    cases k.Kids.all (Nt a.Knots i k.Leaf)with
    |true=>simp only [Ag,Cl];rw [ad1 (by omega)]
    |false=>rfl
   ·have e1:(ln k.Kids !=4)=true:=by simp [ln];omega
    have e2:(k.Kids.length==4)=false:=by simp [h4]
    simp only [e1,Ag,e2,Bool.false_and,Ae])
  (by simp only [D1,Bb,A3,A8,Ae])
 rw [h];unfold Do;simp only [Aa];cases(a.Knots.zipIdx.all fun z=>z.1.Kids.length==4&&z.1.Kids.all (Nt a.Knots z.2 z.1.Leaf))<;>rfl
theorem Lw (a:Arena) (ha:a.Knots.length<=1048576) (r:Int):Gh a r=some (DX a.Knots r):=by
 unfold Gh DX
 cases hr:(r== -1)with
 |true=>rfl
 |false=>
  simp only [Ae,Sa];rw [Cu,C3 (by omega) (by omega),Ek];simp only [Aa];by_cases h:0<=r/\r<(a.Knots.length:Int)
  ·rw [Ad h,Ad (by omega:0<=r/\r<=(a.Knots.length:Int)-1)];simp only [Ag,CS];rw [MK h.1 h.2];rfl
  ·rw [Af h,Af (by omega:¬(0<=r/\r<=(a.Knots.length:Int)-1))];rfl
theorem C4 {K:Ks} {r:Int} (h:DX K r=true):r= -1\/(0<=r/\r<(K.length:Int)/\(Cj K r).Leaf=false):=by
 unfold DX at h;simp only [Db,CV,Aq,AD,Dq]at h
 rcases h with h|h
 ·exact .inl h
 ·exact .inr ⟨h.1.1,h.1.2,h.2⟩
theorem Ii {K:Ks} (hK:Do K=true) {r:Int} (h0:0<=r) (h1:r<(K.length:Int)):(Cj K r).Kids.length=4/\∀j,j<4->(Cj K r).Kids[j]?=some (Mo (Cj K r) j)/\Nt K r.toNat (Cj K r).Leaf (Mo (Cj K r) j)=true:=by
 have:=GO.1 hK r.toNat (by omega);rw [show((r.toNat:Nat):Int)=r by omega]at this;refine⟨this.1,fun j hj=>?_⟩;have a:j<(Cj K r).Kids.length:=by omega
 have e:(Cj K r).Kids[j]?=some (Mo (Cj K r) j):=by unfold Mo;rw [Ac a];rfl
 exact⟨e,this.2 _ (AM e)⟩
theorem Hf {K:Ks} (hK:Do K=true) {r:Int} (h0:0<=r) (h1:r<(K.length:Int)) (hl:(Cj K r).Leaf=false) {j:Nat} (hj:j<4):Mo (Cj K r) j= -1\/(0<=Mo (Cj K r) j/\Mo (Cj K r) j<r/\(Cj K (Mo (Cj K r) j)).Leaf=true):=by
 have:=((Ii hK h0 h1).2 j hj).2;rw [hl]at this;simp only [Nt,Ae,Db,CV,Aq,AD]at this
 rcases this with h|⟨⟨h2,h3⟩,h4⟩
 ·exact .inl h
 ·exact .inr ⟨h2,by omega,h4⟩
theorem wP {K:Ks} (hK:Do K=true) {r:Int} (h0:0<=r) (h1:r<(K.length:Int)) (hl:(Cj K r).Leaf=true) {j:Nat} (hj:j<4):0<=Mo (Cj K r) j:=by
 have:=((Ii hK h0 h1).2 j hj).2;rw [hl]at this;simpa [Nt]using this
theorem qu4 {s:Nat} (h:s<16):qu (s:Int) 4=((s/4:Nat):Int):=by
 unfold qu;rw [show Int.tdiv (s:Int) 4=((s/4:Nat):Int) by rw [Int.tdiv_eq_ediv_of_nonneg (by omega)];omega];exact Ng (by omega) (by omega)
theorem AAJ {s:Nat}:Int.tmod (s:Int) 4=((s %4:Nat):Int):=by
 rw [J4 (by omega)];omega
theorem SQ (a:Arena) (hK:Do a.Knots=true) {r:Int} (hr:DX a.Knots r=true) {s:Nat} (hs:s<16):K6 a r (s:Int)=some (Py a.Knots r s):=by
 unfold K6 Py
 rcases C4 hr with rfl|⟨h0,h1,hl⟩
 ·rfl
 ·rw [Af (by omega:¬r<0),A5 (by omega),Ae,MK h0 h1];simp only [Aa];rw [qu4 hs,AN,((Ii hK h0 h1).2 (s/4) (by omega)).1];simp only [Aa]
  rcases Hf hK h0 h1 hl (show s/4<4 by omega)with e|⟨e1,e2,e3⟩
  ·rw [e];rfl
  ·rw [Af (by omega),A5 (by omega),Ae,MK e1 (by omega)];simp only [Aa];rw [AAJ,AN,((Ii hK e1 (by omega)).2 (s %4) (by omega)).1];rfl
theorem VI (a:Arena) (ha:a.Knots.length<=1048576) (hK:Do a.Knots=true) {r:Int} (hr:DX a.Knots r=true) {s:Nat} (hs:s<16):MC a r (s:Int)=some (Py a.Knots r s):=by
 unfold MC;rw [Ly a ha,Lw a ha,Ek,hK,hr];simp only [Aa,As,Ae];rw [Ad (by omega:0<=(s:Int)/\(s:Int)<=15)];simp only [As,Ae];rw [SQ a hK hr hs]
 try rfl
theorem NV (a:Arena) (ha:a.Knots.length<=1048576) (hK:Do a.Knots=true) {r:Int} (hr:DX a.Knots r=true):HU a r=some (EN a.Knots r):=by
 unfold HU;obtain⟨b,h1,h2⟩:=Bw (body:=fun s:List Int×Int=>FW a r s.1 s.2) (fun(o:List Int) i=>(o,i)) 16 (fun i o=>o=(List.range i).map (Py a.Knots r)) (fun b=>b=EN a.Knots r)
  (fun o i hi ho=>by
   refine .inl ⟨_,?_,rfl⟩;simp only [FW];rw [Ad (by omega:(i:Int)<16),Ag,VI a ha hK hr hi];simp only [Aa];rw [CO (by rw [ho];simp;omega)];simp only [Aa]
   rw [ad1 (by omega),ho,FH,C8,List.map_singleton])
  (fun o ho=>⟨_,by simp only [FW];rw [Af (by omega:¬((16:Nat):Int)<16),Ae],ho⟩) (s:=[]) rfl
 have h1':A0 (fun s:List Int×Int=>FW a r s.1 s.2) ([],0)=some b:=h1;rw [h1',h2];rfl
end Go.TI
namespace Go.TI
open Go
theorem Oz {α:Type} {by_:Nat} {l:List α} (h:l.length*by_<=140737488355328):ap by_ [] l=some l:=by
 rw [CO (by simpa using h),A6]
def ABr (K:Ks):Prop:=K.length<=1048576/\∀k∈K,k.Kids.length<=1048576
theorem RQ {K:Ks} (hK:Do K=true) (h:K.length<=1048576):ABr K:=by
 refine⟨h,fun k hk=>?_⟩;obtain⟨i,hi,rfl⟩:=AK hk;have:=(GO.1 hK i hi).1;rw [Ns hi]at this;omega
theorem Rh (a:Arena) (h:ABr a.Knots):JN a=some a:=by
 unfold JN;have h1:=We (body:=fun s:Int×List BU=>HI a s.1 s.2) a.Knots (fun k=>k)
  (fun i k out hk ho=>by
   have hi:=(Aj.1 hk).1;have hm:=h.2 k (AM hk);have:=h.1;simp only [HI,Bb,Ad hi,Ag,AN,hk,Aa];rw [Oz (by omega)];simp only [Aa];rw [CO (by simp;omega)];simp only [Aa]
   rw [ad1 (by omega)])
  (fun out=>by simp only [HI,Bb,A3,A8,Ae])
 rw [h1];simp only [Aa,List.map_id']
theorem Lv (s:Store) (h:ABr s.Arena.Knots) (hv:s.Vols.length<=1048576):DZ s=some s:=by
 unfold DZ;rw [Oz (by omega),Rh _ h];rfl
def O8 (K:Ks) (r:Int) (s:Nat) (n:Int):List Int:=(if r<0 then [0,0,0,0]else if Mo (Cj K r) (s/4)<0 then [0,0,0,0]else(Cj K (Mo (Cj K r) (s/4))).Kids).set (s %4) n
def QX (K:Ks) (r:Int) (s:Nat):List Int:=(if r<0 then [-1,-1,-1,-1]else(Cj K r).Kids).set (s/4) (K.length:Int)
def JU (K:Ks) (r:Int) (s:Nat) (n:Int):Ks:=K++ [BU.mk true (O8 K r s n),BU.mk false (QX K r s)]
theorem mk4:mk 8 (0:Int) 4=some [0,0,0,0]:=by rw [show(4:Int)=((4:Nat):Int)from rfl,Wb (by omega) (by omega)];rfl
theorem wX {k:BU} {j:Nat} (h:j<k.Kids.length):gi k.Kids (j:Int)=some (Mo k j):=by
 unfold Mo;rw [AN,Ac h];rfl
theorem nA (a:Arena) (ha:a.Knots.length<=1048000) (hK:Do a.Knots=true) {r:Int} (hr:DX a.Knots r=true) {s:Nat} (hs:s<16) {n:Int} (hn:0<=n):
  Rn a r (s:Int) n=some (Arena.mk (JU a.Knots r s n),(a.Knots.length:Int)+1):=by
 unfold Rn;rw [Rh _ (RQ hK (by omega)),Ly a (by omega),Lw a (by omega),Ek,hK,hr];simp only [Aa,As,Ae];rw [Ad (by omega:0<=(s:Int)/\(s:Int)<=15),Af (by omega:¬n<0)];simp only [As,Ae,Aa];rw [mk4];simp only [Aa];have fin:∀(lf tp:List Int),lf.length=4->tp.length=4->JU a.Knots r s n=a.Knots++ [BU.mk true (lf.set (s %4) n),BU.mk false (tp.set (s/4) (a.Knots.length:Int))]->
   ((gi lf (Int.tmod (s:Int) 4)).bind fun x4=>(gi tp (qu (s:Int) 4)).bind fun x5=>(ap 32 a.Knots [(BU.mk true (si lf (Int.tmod (s:Int) 4) n)),(BU.mk false (si tp (qu (s:Int) 4) (ln a.Knots)))]).bind fun q4=>some ((Arena.mk q4),(sb (ln q4) 1)))=some (Arena.mk (JU a.Knots r s n),(a.Knots.length:Int)+1):=by
  intro lf tp h1 h2 h3;rw [qu4 hs,AAJ,AN,AN,Ac (by omega),Ac (by omega)];simp only [Aa];rw [CO (by simp;omega),Hp,Hp,Cu,<-h3];simp only [Aa];rw [Cu,h3,Ai,C3 (by simp;omega) (by simp;omega)];simp only [Ax,Bm];congr 2;omega
 rcases C4 hr with rfl|⟨h0,h1,hl⟩
 ·rw [Af (by omega:¬(-1:Int)>=0)];simp only [Ae,Aa];exact fin _ _ rfl rfl rfl
 ·rw [Ad (by omega:r>=0),Ag,MK h0 h1];have h4:=(Ii hK h0 h1).1;simp only [Aa];rw [Oz (by omega)];simp only [Aa];rw [qu4 hs,wX (by omega:s/4<(Cj a.Knots r).Kids.length)];simp only [Aa];rw [<-qu4 hs]
  rcases Hf hK h0 h1 hl (show s/4<4 by omega)with e|⟨e1,e2,e3⟩
  ·rw [Af (by omega:¬Mo (Cj a.Knots r) (s/4)>=0)];simp only [Ae,Aa];exact fin _ _ rfl h4 (by unfold JU O8 QX;simp only [A5 (show¬r<0 by omega),Az (show Mo (Cj a.Knots r) (s/4)<0 by omega)])
  ·rw [Ad (by omega:Mo (Cj a.Knots r) (s/4)>=0),Ag,MK e1 (by omega)];have h5:=(Ii hK e1 (by omega)).1;simp only [Aa];rw [Oz (by omega)];simp only [Aa];exact fin _ _ h5 h4 (by unfold JU O8 QX;simp only [A5 (show¬r<0 by omega),A5 (show¬Mo (Cj a.Knots r) (s/4)<0 by omega)])
def Om (K:Ks) (r:Int) (i:Nat):Bool:=decide (0<=r)&&(decide (r=(i:Int))||(Cj K r).Kids.any fun n=>decide (n=(i:Int)))
theorem dA {α:Type} (n:Nat) (f:Nat->α) (g:Nat->α->α):((List.range n).map f).mapIdx g=(List.range n).map fun i=>g i (f i):=by
 apply CR;intro j;rw [J0,Bh,Bh];by_cases h:j<n
 ·rw [OI h];rfl
 ·rw [Dl (by simpa using h)];rfl
theorem PG {α:Type} (n:Nat) (f:Nat->α) (i:Nat) (x:α) (g:Nat->α) (h:∀j,j<n->g j=if j=i then x else f j):((List.range n).map f).set i x=(List.range n).map g:=by
 apply CR;intro j;rw [Cq,Bh,Bh];by_cases hj:j<n
 ·rw [OI hj];simp only [B8,h j hj,B9,Ch];by_cases e:i=j
  ·rw [Az e,Az (by omega),Az e.symm]
  ·rw [A5 e,A5 (EC e)]
 ·rw [Dl (by simpa using hj)];simp only [Option.map_none,B9,Ch];split
  ·rw [A5 (by omega)]
  ·rfl
theorem JT {α:Type} {n:Nat} {f:Nat->α} {i:Nat} (h:i<n):((List.range n).map f)[i]?=some (f i):=by
 rw [Bh,OI h];rfl
theorem fY {l:List Int} {m:Nat} {x:Int} (h:l[m]?=some x) (p:Int->Bool):(l.take (m+1)).any p=((l.take m).any p||p x):=by
 rw [Eo,h,List.any_append];simp
theorem gJ (a:Arena) (ha:a.Knots.length<=1048576) (hK:Do a.Knots=true) {r:Int} (hr:DX a.Knots r=true):OV a r=some ((List.range a.Knots.length).map (Om a.Knots r)):=by
 unfold OV;rw [Cu,Wb (by omega) (by omega)];simp only [Aa]
 rcases C4 hr with rfl|⟨h0,h1,hl⟩
 ·simp only [show decide ((-1:Int)<0)=true from rfl,Ag];congr 1;rw [show(Om a.Knots (-1))=fun _=>false from rfl,Lp,Ch]
 ·rw [Af (by omega:¬r<0),Ae];obtain⟨m,rfl⟩:∃m:Nat,r=(m:Int):=⟨r.toNat,by omega⟩;rw [AN,List.getElem?_replicate,Az (by omega)];simp only [Aa];rw [Hp];obtain⟨h4,hk⟩:=Ii hK h0 h1;obtain⟨b,q1,q2⟩:=Bw (body:=fun s:List Bool×Int=>Hu a (m:Int) s.1 s.2) (fun(o:List Bool) i=>(o,i)) 4
   (fun i o=>o=(List.range a.Knots.length).map fun(j:Nat)=>decide ((m:Int)=(j:Int))||((Cj a.Knots (m:Int)).Kids.take i).any fun n=>decide (n=(j:Int)))
   (fun b=>b=(List.range a.Knots.length).map (Om a.Knots (m:Int)))
   (fun o i hi ho=>by
    obtain⟨e,_⟩:=hk i hi;simp only [Hu];rw [Ad (by omega:(i:Int)<4),Ag,MK h0 h1];simp only [Aa];rw [AN,e];simp only [Aa]
    rcases Hf hK h0 h1 hl hi with e1|⟨e1,e2,e3⟩
    ·rw [e1,Af (by omega:¬(-1:Int)>=0),Ae,ad1 (by omega)];refine .inl ⟨o,rfl,?_⟩;rw [ho];apply CJ;intro j hj;rw [fY e,e1,Af (by omega:¬(-1:Int)=(j:Int)),NF]
    ·obtain⟨c,hc⟩:∃c:Nat,Mo (Cj a.Knots (m:Int)) i=(c:Int):=⟨(Mo (Cj a.Knots (m:Int)) i).toNat,by omega⟩;rw [hc,Ad (by omega:(c:Int)>=0),Ag]
     try simp only [Aa]
     rw [ho,AN,JT (by omega)];simp only [Aa];rw [Hp,ad1 (by omega)];refine .inl ⟨_,rfl,?_⟩;apply PG;intro j hj;rw [fY e,hc];by_cases d:j=c
     ·subst d;simp
     ·rw [A5 d,Af (by omega:¬(c:Int)=(j:Int)),NF])
   (fun o ho=>⟨_,by simp only [Hu];rw [Af (by omega:¬((4:Nat):Int)<4),Ae],by
    rw [ho];apply CJ;intro j hj;rw [Bc (by omega)];unfold Om
    rw [Ad h0,CS]⟩) (s:=(List.replicate a.Knots.length false).set m true) (by
    rw [<-Ch (n:=a.Knots.length),<-Lp,Ch];apply PG;intro j hj;simp only [Ib,List.any_nil,NF];by_cases e:j=m
    ·subst e;simp
    ·rw [A5 e,Af (by omega)])
  have q1':A0 (fun s:List Bool×Int=>Hu a (m:Int) s.1 s.2) ((List.replicate a.Knots.length false).set m true,0)=some b:=q1;rw [q1',q2];rfl
end Go.TI
namespace Go.TI
open Go
def DI (K:Ks) (R:List Int) (i:Nat):Bool:=R.any fun r=>Om K r i
def YT (K:Ks) (R:List Int) (i:Nat):Nat:=((List.range i).filter (DI K R)).length
def PF (K:Ks) (R:List Int) (n:Int):Int:=if 0<=n then(YT K R n.toNat:Int)else n
def lK (K:Ks) (R:List Int) (i:Nat):BU:=BU.mk (Cj K (i:Int)).Leaf (bif(Cj K (i:Int)).Leaf then(Cj K (i:Int)).Kids else(Cj K (i:Int)).Kids.map (PF K R))
def Tt (K:Ks) (R:List Int):Ks:=((List.range K.length).filter (DI K R)).map (lK K R)
theorem Og {α:Type} (l:List α) (f:α->α):l.mapIdx (fun _ x=>f x)=l.map f:=by
 apply CR;intro j;rw [J0,Bh]
theorem P4 {K:Ks} {R:List Int} {r:Int} (hr:r∈R) (h0:0<=r):DI K R r.toNat=true:=by
 unfold DI;rw [D9];exact⟨r,hr,by unfold Om;rw [Ad h0,Ad (by omega:r=(r.toNat:Int))];rfl⟩
theorem fT {K:Ks} {R:List Int} (hK:Do K=true) (hR:∀r∈R,DX K r=true) {i:Nat} (hu:DI K R i=true) (hl:(Cj K (i:Int)).Leaf=false):(i:Int)∈R:=by
 unfold DI at hu;rw [D9]at hu;obtain⟨r,hr,h⟩:=hu;unfold Om at h;simp only [Aq,Db,AD,D9]at h;obtain⟨h0,h⟩:=h
 rcases h with h|⟨n,hn,h⟩
 ·rw [<-h];exact hr
 ·rcases C4 (hR r hr)with e|⟨_,h1,a⟩
  ·omega
  ·obtain⟨h4,hk⟩:=Ii hK h0 h1;obtain⟨j,hj,b⟩:=AK hn;have e:=(hk j (by omega)).1;rw [Ac hj,b]at e
   injection e with e
   rcases Hf hK h0 h1 a (show j<4 by omega)with k1|⟨_,_,k3⟩
   ·omega
   ·rw [<-e,h,hl]at k3;cases k3
theorem UD {K:Ks} {R:List Int} {r n:Int} (hr:r∈R) (h0:0<=r) (hn:n∈(Cj K r).Kids) (h1:0<=n):DI K R n.toNat=true:=by
 unfold DI;rw [D9];refine⟨r,hr,?_⟩;unfold Om;rw [Ad h0,CS,Db,D9];exact .inr ⟨n,hn,by rw [AD];omega⟩
theorem AB1 {K:Ks} {R:List Int} (i:Nat):YT K R i<=i:=by
 have:=CI (DI K R) (List.range i);rw [Ch]at this;exact this
theorem Xq (a:Arena) (ha:a.Knots.length<=1048576) (R:List Int) (hc:R.length<=1048576) (hR:∀r∈R,DX a.Knots r=true):A0 (fun s:Bool×Int=>Ey a R s.1 s.2) (true,0)=some true:=by
 obtain⟨b,h1,h2⟩:=Bw (body:=fun s:Bool×Int=>Ey a R s.1 s.2) (fun(o:Bool) i=>(o,i)) R.length (fun _ o=>o=true) (fun b=>b=true)
  (fun o i hi ho=>by
   have hx:=Ac hi;simp only [Ey,Bb,Ad hi,Ag,Aa,ho,AN,hx];rw [Lw a ha,hR _ (AP hi)];simp only [Aa];rw [ad1 (by omega)]
   exact .inl ⟨true,rfl,rfl⟩)
  (fun o ho=>⟨o,by simp only [Ey,Bb,A3,A8,Ae,Aa],ho⟩) (s:=true) rfl
 rw [h2]at h1;exact h1
theorem aC (a:Arena) (ha:a.Knots.length<=1048576) (hK:Do a.Knots=true) (R:List Int) (hc:R.length<=1048576) (hR:∀r∈R,DX a.Knots r=true):
  A0 (fun s:List Bool×Int=>Ex a R s.1 s.2) (List.replicate a.Knots.length false,0)=some ((List.range a.Knots.length).map (DI a.Knots R)):=by
 obtain⟨b,h1,h2⟩:=Bw (body:=fun s:List Bool×Int=>Ex a R s.1 s.2) (fun(o:List Bool) i=>(o,i)) R.length (fun i o=>o=(List.range a.Knots.length).map fun(j:Nat)=>(R.take i).any fun r=>Om a.Knots r j) (fun b=>b=(List.range a.Knots.length).map (DI a.Knots R))
  (fun o i hi ho=>by
   have hx:=Ac hi;simp only [Ex,Bb,Ad hi,Ag,Aa,AN,hx];rw [gJ a ha hK (hR _ (AP hi))];simp only [Aa];have d:o.length=a.Knots.length:=by rw [ho];simp
   have q:=R4 (body:=fun s:List Bool×Int=>Fz ((List.range a.Knots.length).map (Om a.Knots R[i])) s.1 s.2) (fun l i=>(l,i)) (fun k x=>x||Om a.Knots R[i] k) o
    (fun k l x hl c e=>by
     have hk:k<a.Knots.length:=by have:=(Aj.1 c).1;omega
     simp only [Fz,Bb];rw [Ad (by simpa using hk),Ag,AN,c];simp only [Aa]
     cases x with
     |true=>simp only [Ag,Bool.true_or];rw [Hp,ad1 (by omega)]
     |false=>
      simp only [Ae,Sa];rw [AN,JT hk];simp only [Aa]
      rw [Hp,ad1 (by omega)])
    (fun l hl=>by simp only [Fz,Bb];rw [d,Af (by simp),Ae])
   rw [q];simp only [Aa];rw [ad1 (by omega),ho,dA];refine .inl ⟨_,rfl,?_⟩;apply CJ;intro j hj;rw [Eo,hx,List.any_append]
   simp)
  (fun o ho=>⟨o,by simp only [Ex,Bb,A3,A8,Ae],by rw [ho,Bc (by omega)];rfl⟩) (s:=List.replicate a.Knots.length false) (by
   simp only [Ib,List.any_nil]
   rw [Lp,Ch])
 rw [<-h2];exact h1
def nV (K:Ks) (R:List Int) (i:Nat):List Int:=(List.range K.length).map fun(j:Nat)=>if j<i/\DI K R j=true then(YT K R j:Int)else 0
theorem Xr (a:Arena) (ha:a.Knots.length<=1048576) (hK:Do a.Knots=true) (R:List Int) (hR:∀r∈R,DX a.Knots r=true):
  A0 (fun s:List Int×Int×List BU=>Ew a ((List.range a.Knots.length).map (DI a.Knots R)) s.1 s.2.1 s.2.2) (List.replicate a.Knots.length 0,0,[])=some (nV a.Knots R a.Knots.length,Tt a.Knots R):=by
 obtain⟨b,h1,h2⟩:=Bw (body:=fun s:List Int×Int×List BU=>Ew a ((List.range a.Knots.length).map (DI a.Knots R)) s.1 s.2.1 s.2.2) (fun(o:List Int×List BU) i=>(o.1,i,o.2)) a.Knots.length
  (fun i o=>o=(nV a.Knots R i,((List.range i).filter (DI a.Knots R)).map (lK a.Knots R))) (fun b=>b=(nV a.Knots R a.Knots.length,Tt a.Knots R))
  (fun o i hi ho=>by
   subst ho;simp only [Ew,Bb,Ad hi,Ag];rw [AN,JT hi];simp only [Aa]
   cases hu:DI a.Knots R i with
   |false=>
    simp only [Bk,Ag];rw [ad1 (by omega)];refine .inl ⟨(nV a.Knots R i,((List.range i).filter (DI a.Knots R)).map (lK a.Knots R)),rfl,?_⟩;congr 1
    ·unfold nV;apply CJ;intro j hj;by_cases e:j=i
     ·subst e;rw [A5 (by omega),A5 (by rw [hu];simp)]
     ·by_cases h:j<i/\DI a.Knots R j=true
      ·rw [Az h,Az ⟨by omega,h.2⟩]
      ·rw [A5 h,A5 (fun h3=>h ⟨by omega,h3.2⟩)]
    ·rw [FH,Bf,Cr (by rw [hu];simp)];simp
   |true=>
    simp only [As,Ae];have h0:(0:Int)<=(i:Int):=by omega
    have d:(i:Int)<(a.Knots.length:Int):=by omega
    rw [MK h0 d];obtain⟨h4,hk⟩:=Ii hK h0 d;simp only [Aa];rw [Oz (by omega)];simp only [Aa];have inner:A0 (fun s:Int×List Int=>Ev (nV a.Knots R i) ((Cj a.Knots (i:Int)).Leaf,(Cj a.Knots (i:Int)).Kids) s.1 s.2) (0,(Cj a.Knots (i:Int)).Kids)=some (lK a.Knots R i).Kids:=by
     unfold lK
     cases hl:(Cj a.Knots (i:Int)).Leaf with
     |true=>rw [AG];rfl
     |false=>
      have q:=R4 (body:=fun s:Int×List Int=>Ev (nV a.Knots R i) (false,(Cj a.Knots (i:Int)).Kids) s.1 s.2) (fun l k=>(k,l)) (fun _ x=>PF a.Knots R x) (Cj a.Knots (i:Int)).Kids
       (fun k l x t f g=>by
        have m:k<4:=by have:=(Aj.1 g).1;omega
        have ex:x=Mo (Cj a.Knots (i:Int)) k:=by have:=(hk k m).1;rw [g]at this;injection this
        simp only [Ev];rw [Ad (by omega:(k:Int)<4)];simp only [Ag,Aa,Bk];rw [AN,f];simp only [Aa]
        rcases Hf hK h0 d hl m with e|⟨e1,e2,e3⟩
        ·rw [Af (by omega:¬x>=0),Ae,ad1 (by omega)];have:PF a.Knots R x=x:=by unfold PF;rw [A5 (by omega)]
         rw [this,show l.set k x=l from by
          apply CR;intro j;rw [Cq];split
          ·rename_i e5;subst e5;rw [Az (Aj.1 f).1,f]
          ·rfl]
        ·rw [Ad (by omega:x>=0),Ag];obtain⟨c,hc⟩:∃c:Nat,x=(c:Int):=⟨x.toNat,by omega⟩;have u:x∈(Cj a.Knots (i:Int)).Kids:=AM g;have n:=UD (fT hK hR hu hl) h0 u (by omega);rw [hc]at n;rw [hc,AN];unfold nV;rw [JT (by omega)];simp only [Aa];rw [Az ⟨by omega,n⟩,Hp,ad1 (by omega)];unfold PF;rw [Az (by omega)]
         rfl)
       (fun l t=>by
        simp only [Ev];rw [h4,Af (by omega:¬((4:Nat):Int)<4)]
        rfl)
      rw [Og]at q;exact q
    rw [inner];simp only [Aa];have v:gi (nV a.Knots R i) (i:Int)=some 0:=by
     unfold nV;rw [AN,JT hi,A5 (by omega)]
    rw [v];simp only [Aa];have w:=AB1 (K:=a.Knots) (R:=R) i;have p:(((List.range i).filter (DI a.Knots R)).map (lK a.Knots R)).length=YT a.Knots R i:=by rw [B9];rfl
    rw [CO (by rw [p];simp;omega)];simp only [Aa];rw [ad1 (by omega),Cu,p,Hp];refine .inl ⟨(_,_),rfl,?_⟩;congr 1
    ·unfold nV;apply PG;intro j hj;by_cases e:j=i
     ·subst e;rw [Az ⟨by omega,hu⟩,Az rfl]
     ·rw [A5 e];by_cases h:j<i/\DI a.Knots R j=true
      ·rw [Az h,Az ⟨by omega,h.2⟩]
      ·rw [A5 h,A5 (fun h3=>h ⟨by omega,h3.2⟩)]
    ·rw [FH,Bf,Cb hu,GZ,C8]
     rfl)
  (fun o ho=>⟨o,by simp only [Ew,Bb,A3,A8,Ae],ho⟩) (s:=(List.replicate a.Knots.length 0,[])) (by
   unfold nV;simp only [Nat.not_lt_zero,false_and,Jz];rw [Lp,Ch]
   rfl)
 rw [<-h2];exact h1
theorem mX (a:Arena) (ha:a.Knots.length<=1048576) (R:List Int) (hc:R.length<=1048576) (hR:∀r∈R,DX a.Knots r=true):
  A0 (fun s:List Int×Int=>Eu (nV a.Knots R a.Knots.length,Tt a.Knots R) s.1 s.2) (R,0)=some (R.map (PF a.Knots R)):=by
 have q:=R4 (body:=fun s:List Int×Int=>Eu (nV a.Knots R a.Knots.length,Tt a.Knots R) s.1 s.2) (fun l k=>(l,k)) (fun _ x=>PF a.Knots R x) R
  (fun k l x f b d=>by
   have hk:=(Aj.1 d).1;have g:=(Aj.1 b).1;simp only [Eu,Bb,Ad g,Ag,AN,b,Aa]
   rcases C4 (hR x (AM d))with e|⟨e1,e2,e3⟩
   ·rw [Af (by omega:¬x>=0),Ae,ad1 (by omega)];have:PF a.Knots R x=x:=by unfold PF;rw [A5 (by omega)]
    rw [this,show l.set k x=l from by
     apply CR;intro j;rw [Cq];split
     ·rename_i e5;subst e5
      first
       |rw [Az g,b]
       |exact b.symm
     ·rfl]
   ·rw [Ad (by omega:x>=0),Ag];obtain⟨c,h⟩:∃c:Nat,x=(c:Int):=⟨x.toNat,by omega⟩;have i:=P4 (K:=a.Knots) (AM d) e1;rw [h]at i;rw [h,AN];unfold nV;rw [JT (by omega)];simp only [Aa];rw [Az ⟨by omega,i⟩,Hp,ad1 (by omega)];unfold PF;rw [Az (by omega)]
    rfl)
  (fun l f=>by simp only [Eu,Cu,f];rw [Af (by omega),Ae])
 rw [Og]at q;exact q
theorem Vq (a:Arena) (ha:a.Knots.length<=1048576) (hK:Do a.Knots=true) (R:List Int) (hc:R.length<=1048576) (hR:∀r∈R,DX a.Knots r=true):
  HM a R=some (Arena.mk (Tt a.Knots R),R.map (PF a.Knots R)):=by
 unfold HM;rw [Oz (by omega),Ly a ha,hK];simp only [Aa];rw [Xq a ha R hc hR];simp only [Aa,As,Ae];rw [Cu,Wb (by omega) (by omega)];simp only [Aa];rw [aC a ha hK R hc hR];simp only [Aa];rw [Wb (by omega) (by omega)];simp only [Aa];rw [Xr a ha hK R hR];simp only [Aa];rw [mX a ha R hc hR];rfl
end Go.TI
namespace Go.TI
open Go
theorem Ww (p:Nat->Bool) {i:Nat} (hp:p i=true):∀{n:Nat},i<n->((List.range n).filter p)[((List.range i).filter p).length]?=some i
 |0,h=>by omega
 |n+1,h=>by
  rw [FH,Bf];by_cases e:i=n
  ·subst e;rw [AW (AB _),P2,Cb hp];rfl
  ·have h2:=Ww p hp (show i<n by omega);have h3:=(Aj.1 h2).1;rw [AT h3,h2]
theorem kE (p:Nat->Bool) {i:Nat} (hp:p i=true) {n:Nat} (h:i<n):((List.range i).filter p).length<((List.range n).filter p).length:=(Aj.1 (Ww p hp h)).1
theorem kD (p:Nat->Bool):∀{n j:Nat},j<((List.range n).filter p).length->∃i,i<n/\p i=true/\((List.range i).filter p).length=j
 |0,j,h=>by simp at h
 |n+1,j,h=>by
  rw [FH,Bf,Ai]at h;by_cases e:j<((List.range n).filter p).length
  ·obtain⟨i,h1,h2,h3⟩:=kD p e;exact⟨i,by omega,h2,h3⟩
  ·by_cases hp:p n=true
   ·rw [Cb hp]at h;simp at h;exact⟨n,by omega,hp,by omega⟩
   ·rw [Cr hp]at h;simp at h;omega
section
variable {K:Ks} {R:List Int}
theorem Z7:(Tt K R).length=YT K R K.length:=by unfold Tt YT;rw [B9]
theorem P6 {i:Nat} (hu:DI K R i=true) (hi:i<K.length):Cj (Tt K R) (YT K R i:Nat)=lK K R i/\YT K R i<(Tt K R).length:=by
 have h:=kE (DI K R) hu hi;have h2:YT K R i<(Tt K R).length:=by rw [Z7];exact h
 refine⟨?_,h2⟩;unfold Cj;rw [AN];unfold Tt;rw [Bh];have:=Ww (DI K R) hu hi;rw [show YT K R i=((List.range i).filter (DI K R)).length from rfl,this];rfl
theorem uR {j:Nat} (hj:j<(Tt K R).length):∃i,i<K.length/\DI K R i=true/\YT K R i=j:=by
 rw [Z7]at hj;exact kD (DI K R) hj
theorem AB0 {i j:Nat} (hu:DI K R i=true) (h:i<j):YT K R i<YT K R j:=kE _ hu h
theorem UK (i:Nat):(lK K R i).Leaf=(Cj K (i:Int)).Leaf:=rfl
theorem qA (hK:Do K=true) {i:Nat} (hi:i<K.length):(lK K R i).Kids.length=4:=by
 have:=(GO.1 hK i hi).1;unfold lK
 cases(Cj K (i:Int)).Leaf with
 |true=>exact this
 |false=>simp only [Ae,B9];exact this
theorem qB {i j:Nat} (hl:(Cj K (i:Int)).Leaf=false) (hj:j<(Cj K (i:Int)).Kids.length):Mo (lK K R i) j=PF K R (Mo (Cj K (i:Int)) j):=by
 unfold Mo lK;rw [hl];simp only [Ae];rw [Bh,Ac hj];rfl
theorem Qd {i:Nat} (hl:(Cj K (i:Int)).Leaf=true):(lK K R i).Kids=(Cj K (i:Int)).Kids:=by
 unfold lK;rw [hl];rfl
theorem PD {n:Int} (h:n<0):PF K R n=n:=by unfold PF;rw [A5 (by omega)]
theorem PE (n:Nat):PF K R (n:Int)=(YT K R n:Int):=by unfold PF;rw [Az (by omega)];rfl
theorem AA8 (hK:Do K=true) (hR:∀r∈R,DX K r=true):Do (Tt K R)=true:=by
 rw [GO];intro j hj;obtain⟨i,hi,hu,rfl⟩:=uR hj;rw [(P6 hu hi).1];refine⟨qA hK hi,fun n hn=>?_⟩;have h0:(0:Int)<=(i:Int):=by omega
 have h1:(i:Int)<(K.length:Int):=by omega
 obtain⟨h4,hk⟩:=Ii hK h0 h1;rw [UK]
 cases hl:(Cj K (i:Int)).Leaf with
 |true=>
  rw [Qd hl]at hn;have:=(GO.1 hK i hi).2 n hn;rw [hl]at this;simpa [Nt]using this
 |false=>
  obtain⟨m,hm,b⟩:=AK hn;rw [qA hK hi]at hm;have e:n=PF K R (Mo (Cj K (i:Int)) m):=by
   rw [<-qB hl (by omega),<-b];unfold Mo;rw [Ac];rfl
  rcases Hf hK h0 h1 hl hm with k1|⟨k1,k2,k3⟩
  ·rw [k1,PD (by omega)]at e;subst e;rfl
  ·obtain⟨c,hc⟩:∃c:Nat,Mo (Cj K (i:Int)) m=(c:Int):=⟨_,(B5 k1).symm⟩;rw [hc]at e k2 k3;rw [PE]at e;have a:=UD (fT hK hR hu hl) h0 (AM (hk m hm).1) (by omega);rw [hc]at a;have d:c<K.length:=by omega
   have f:YT K R c<YT K R i:=AB0 (by simpa using a) (by omega);subst e;simp only [Nt,Ae,Db,CV,Aq,AD];refine .inr ⟨by omega,?_⟩;rw [(P6 (by simpa using a) d).1,UK];exact k3
theorem vH (hR:∀r∈R,DX K r=true) {r:Int} (hr:r∈R):DX (Tt K R) (PF K R r)=true:=by
 rcases C4 (hR r hr)with e|⟨h0,h1,hl⟩
 ·rw [e,PD (by omega)];rfl
 ·obtain⟨c,rfl⟩:∃c:Nat,r=(c:Int):=⟨_,(B5 h0).symm⟩;have a:=P4 (K:=K) hr h0;rw [B7]at a;obtain⟨g1,g2⟩:=P6 a (by omega);rw [PE];unfold DX;rw [Ad (by omega),g1,UK,hl];simp
theorem qI (hK:Do K=true) (hR:∀r∈R,DX K r=true) {r:Int} (hr:r∈R):EN (Tt K R) (PF K R r)=EN K r:=by
 unfold EN;apply CJ;intro s hs;rw [Ic]at hs;unfold Py
 rcases C4 (hR r hr)with e|⟨h0,h1,hl⟩
 ·rw [e,PD (by omega),Az (by omega),Az (by omega)]
 ·obtain⟨c,rfl⟩:∃c:Nat,r=(c:Int):=⟨_,(B5 h0).symm⟩;have a:=P4 (K:=K) hr h0;rw [B7]at a;obtain⟨g1,g2⟩:=P6 a (by omega);obtain⟨h4,hk⟩:=Ii hK h0 h1;rw [PE,g1,qB hl (by omega)];simp only [A5 (show¬((YT K R c:Nat):Int)<0 by omega),A5 (show¬((c:Nat):Int)<0 by omega)]
  rcases Hf hK h0 h1 hl (show s/4<4 by omega)with k1|⟨k1,k2,k3⟩
  ·rw [k1,PD (by omega)];rfl
  ·obtain⟨d,hd⟩:∃d:Nat,Mo (Cj K (c:Int)) (s/4)=(d:Int):=⟨_,(B5 k1).symm⟩;have b:=UD hr h0 (AM (hk (s/4) (by omega)).1) k1;rw [hd]at b k2 k3;rw [hd,PE];simp only [A5 (show¬((YT K R d:Nat):Int)<0 by omega),A5 (show¬((d:Nat):Int)<0 by omega)];rw [(P6 (by simpa using b) (by omega)).1];unfold Mo;rw [Qd k3]
theorem zF (hK:Do K=true) (hR:∀r∈R,DX K r=true) {j:Nat} (hj:j<(Tt K R).length):DI (Tt K R) (R.map (PF K R)) j=true:=by
 obtain⟨i,hi,hu,rfl⟩:=uR hj;have hu':=hu;unfold DI at hu';rw [D9]at hu';obtain⟨r,hr,h⟩:=hu';unfold Om at h;simp only [Aq,Db,AD,D9]at h;obtain⟨h0,h⟩:=h;unfold DI;rw [D9];refine⟨PF K R r,AR.2 ⟨r,hr,rfl⟩,?_⟩;obtain⟨c,rfl⟩:∃c:Nat,r=(c:Int):=⟨_,(B5 h0).symm⟩;rw [PE];unfold Om;simp only [Aq,Db,AD,D9];refine⟨by omega,?_⟩
 rcases h with h|⟨n,hn,h⟩
 ·have:c=i:=by omega
  subst this;exact .inl rfl
 ·right
  rcases C4 (hR _ hr)with e|⟨_,h1,hl⟩
  ·omega
  ·have a:=P4 (K:=K) hr h0;rw [B7]at a;rw [(P6 a (by omega)).1];refine⟨(YT K R i:Int),?_,rfl⟩;unfold lK;rw [hl];simp only [Ae,AR];exact⟨n,hn,by rw [h,PE]⟩
theorem Mn {X:Ks} {i:Int} (h0:0<=i) (h:i<(K.length:Int)):Cj (K++X) i=Cj K i:=by
 obtain⟨c,rfl⟩:∃c:Nat,i=(c:Int):=⟨_,(B5 h0).symm⟩;unfold Cj;rw [AN,AN,AT (by omega)]
theorem vE {X:Ks} {r:Int} (h:DX K r=true):DX (K++X) r=true:=by
 rcases C4 h with e|⟨h0,h1,hl⟩
 ·rw [e];rfl
 ·unfold DX;rw [Mn h0 h1,hl,Ad (by rw [Ai];omega)];simp
theorem qD {X:Ks} (hK:Do K=true) {r:Int} (h:DX K r=true):EN (K++X) r=EN K r:=by
 unfold EN;apply CJ;intro s hs;rw [Ic]at hs;unfold Py
 rcases C4 h with e|⟨h0,h1,hl⟩
 ·rw [e];rfl
 ·rw [Mn h0 h1];simp only [A5 (show¬r<0 by omega)]
  rcases Hf hK h0 h1 hl (show s/4<4 by omega)with k1|⟨k1,k2,k3⟩
  ·rw [k1];rfl
  ·rw [Mn k1 (by omega)]
theorem Zg (hK:Do K=true) {r:Int} (hr:DX K r=true) {s:Nat} (hs:s<16) (n:Int):(O8 K r s n).length=4:=by
 unfold O8;rw [I9]
 rcases C4 hr with e|⟨h0,h1,hl⟩
 ·rw [Az (by omega)];rfl
 ·rw [A5 (by omega)]
  rcases Hf hK h0 h1 hl (show s/4<4 by omega)with k1|⟨k1,k2,k3⟩
  ·rw [Az (by omega)];rfl
  ·rw [A5 (by omega)];exact(Ii hK k1 (by omega)).1
theorem fW (hK:Do K=true) {r:Int} (hr:DX K r=true) (s:Nat):(QX K r s).length=4:=by
 unfold QX;rw [I9]
 rcases C4 hr with e|⟨h0,h1,hl⟩
 ·rw [Az (by omega)];rfl
 ·rw [A5 (by omega)];exact(Ii hK h0 h1).1
theorem S2 {r:Int} {s:Nat} {n:Int}:Cj (JU K r s n) (K.length:Int)=BU.mk true (O8 K r s n):=by
 unfold Cj JU;rw [AN,AW (AB _),P2];rfl
theorem S1 {r:Int} {s:Nat} {n:Int}:Cj (JU K r s n) ((K.length:Int)+1)=BU.mk false (QX K r s):=by
 unfold Cj JU;rw [show(K.length:Int)+1=((K.length+1:Nat):Int)from rfl,AN,AW (by omega),show K.length+1-K.length=1 by omega];rfl
theorem ABg (hK:Do K=true) {r:Int} (hr:DX K r=true) {s:Nat} (hs:s<16) {n:Int} (hn:0<=n):Do (JU K r s n)=true:=by
 rw [GO];intro j hj;have a:(JU K r s n).length=K.length+2:=by unfold JU;simp
 rw [a]at hj;by_cases h:j<K.length
 ·have hk:Cj (JU K r s n) (j:Int)=Cj K (j:Int):=Mn (by omega) (by omega);rw [hk];obtain⟨h4,h5⟩:=GO.1 hK j h;refine⟨h4,fun m hm=>?_⟩;have:=h5 m hm
  cases hl:(Cj K (j:Int)).Leaf with
  |true=>rw [hl]at this;exact this
  |false=>
   rw [hl]at this;simp only [Nt,Ae,Db,CV,Aq,AD]at this⊢
   rcases this with e|⟨e1,e2⟩
   ·exact .inl e
   ·refine .inr ⟨e1,?_⟩;rw [show Cj (JU K r s n) m=Cj K m from Mn e1.1 (by omega)];exact e2
 ·by_cases e:j=K.length
  ·subst e;rw [S2];refine⟨Zg hK hr hs n,fun m hm=>?_⟩;simp only [Nt,Ag,AD];unfold O8 at hm
   rcases DC hm with hm|hm
   ·rcases C4 hr with e|⟨h0,h1,hl⟩
    ·rw [Az (by omega)]at hm;simp at hm;omega
    ·rw [A5 (by omega)]at hm
     rcases Hf hK h0 h1 hl (show s/4<4 by omega)with k1|⟨k1,k2,k3⟩
     ·rw [Az (by omega)]at hm;simp at hm;omega
     ·rw [A5 (by omega)]at hm;have hq:=GO.1 hK (Mo (Cj K r) (s/4)).toNat (by omega);rw [B5 k1,k3]at hq;have:=hq.2 m hm;simpa [Nt]using this
   ·omega
  ·have:j=K.length+1:=by omega
   subst this;rw [show((K.length+1:Nat):Int)=(K.length:Int)+1 from rfl,S1];refine⟨fW hK hr s,fun m hm=>?_⟩;simp only [Nt,Ae,Db,CV,Aq,AD];unfold QX at hm
   rcases DC hm with hm|hm
   ·rcases C4 hr with e|⟨h0,h1,hl⟩
    ·rw [Az (by omega)]at hm;simp at hm;omega
    ·rw [A5 (by omega)]at hm;obtain⟨q,hq,rfl⟩:=AK hm;obtain⟨h4,hk⟩:=Ii hK h0 h1;have e5:=(hk q (by omega)).1;rw [Ac hq]at e5
     injection e5 with e5
     rw [e5]
     rcases Hf hK h0 h1 hl (show q<4 by omega)with k1|⟨k1,k2,k3⟩
     ·exact .inl k1
     ·refine .inr ⟨by omega,?_⟩;rw [show Cj (JU K r s n) (Mo (Cj K r) q)=Cj K (Mo (Cj K r) q)from Mn k1 (by omega)];exact k3
   ·refine .inr ⟨by omega,?_⟩;rw [hm,S2]
theorem sI {r:Int} {s:Nat} {n:Int}:DX (JU K r s n) ((K.length:Int)+1)=true:=by
 unfold DX;rw [S1,Ad (by unfold JU;simp;omega)];simp
theorem qK (hK:Do K=true) {r:Int} (hr:DX K r=true) {s:Nat} (hs:s<16) {n:Int}:EN (JU K r s n) ((K.length:Int)+1)=(EN K r).set s n:=by
 unfold EN;symm;apply PG;intro t ht;unfold Py;rw [S1];simp only [A5 (show¬((K.length:Int)+1)<0 by omega)];have a:=fW hK hr s;have b:=Zg hK hr hs n;by_cases hq:t/4=s/4
 ·have e1:Mo (BU.mk false (QX K r s)) (t/4)=(K.length:Int):=by
   unfold Mo QX;rw [hq,Cq,Az rfl];unfold QX at a;rw [I9]at a;rw [Az (by rw [a];omega)];rfl
  rw [e1,A5 (by omega),S2];have e2:Mo (BU.mk true (O8 K r s n)) (t %4)=if t %4=s %4 then n else(if r<0 then 0 else if Mo (Cj K r) (s/4)<0 then 0 else Mo (Cj K (Mo (Cj K r) (s/4))) (t %4)):=by
   unfold Mo O8;unfold O8 at b;rw [I9]at b;rw [Cq];by_cases e:s %4=t %4
   ·rw [Az e,Az (by rw [b];omega),Az e.symm];rfl
   ·rw [A5 e,A5 (EC e)];have zero:([0,0,0,0]:List Int)[t %4]?.getD 0=0:=by
     have:t %4<4:=by omega
     generalize t %4=q at this
     match q,this with
     |0,_=>rfl
     |1,_=>rfl
     |2,_=>rfl
     |3,_=>rfl
    by_cases c1:r<0
    ·rw [Az c1,Az c1];exact zero
    ·rw [A5 c1,A5 c1];unfold Mo;by_cases c2:((Cj K r).Kids[s/4]?).getD 0<0
     ·rw [Az c2,Az c2];exact zero
     ·rw [A5 c2,A5 c2]
  rw [e2,hq];by_cases e:t=s
  ·rw [Az e,Az (by rw [e])]
  ·rw [A5 e,A5 (by omega)]
 ·rw [A5 (show¬t=s by intro e;rw [e]at hq;exact hq rfl)];have e1:Mo (BU.mk false (QX K r s)) (t/4)=if r<0 then-1 else Mo (Cj K r) (t/4):=by
   unfold Mo QX;rw [Cq,A5 (EC hq)];by_cases c1:r<0
   ·rw [Az c1,Az c1];have:t/4<4:=by omega
    generalize t/4=q at this
    match q,this with
    |0,_=>rfl
    |1,_=>rfl
    |2,_=>rfl
    |3,_=>rfl
   ·rw [A5 c1,A5 c1]
  rw [e1]
  rcases C4 hr with e|⟨h0,h1,hl⟩
  ·rw [e];rfl
  ·simp only [A5 (show¬r<0 by omega)]
   rcases Hf hK h0 h1 hl (show t/4<4 by omega)with k1|⟨k1,k2,k3⟩
   ·rw [k1];rfl
   ·rw [show Cj (JU K r s n) (Mo (Cj K r) (t/4))=Cj K (Mo (Cj K r) (t/4))from Mn k1 (by omega)]
end
end Go.TI
namespace Go.TI
open Go
def KN (n:Nat) (p:Nat->Bool):Nat:=((List.range n).filter p).length
theorem Kf (n:Nat) (p:Nat->Bool):KN (n+1) p=KN n p+(if p n=true then 1 else 0):=by
 unfold KN;rw [FH,Bf,Ai];by_cases h:p n=true
 ·rw [Az h,Cb h];rfl
 ·rw [A5 h,Cr h];rfl
theorem Up (p q:Nat->Bool):∀n,KN n (fun j=>p j||q j)<=KN n p+KN n q
 |0=>by simp [KN]
 |n+1=>by
  have:=Up p q n;rw [Kf,Kf,Kf];cases p n<;>cases q n<;>simp<;>omega
theorem W1 (x:Int):∀n,KN n (fun j=>decide (x=(j:Int)))<=1/\(x>=(n:Int)->KN n (fun j=>decide (x=(j:Int)))=0)
 |0=>by simp [KN]
 |n+1=>by
  obtain⟨h1,h2⟩:=W1 x n;rw [Kf];by_cases h:x=(n:Int)
  ·have:=h2 (by omega);rw [Az (by simpa using h)];exact⟨by omega,fun h3=>by omega⟩
  ·rw [A5 (by simpa using h)];exact⟨by omega,fun h3=>by rw [h2 (by omega)]⟩
theorem xV (l:List Int) (n:Nat):KN n (fun j=>l.any fun x=>decide (x=(j:Int)))<=l.length:=by
 induction l with
 |nil=>simp [KN]
 |cons x l ih=>
  simp only [List.any_cons,Ax];have:=Up (fun j=>decide (x=(j:Int))) (fun j=>l.any fun x=>decide (x=(j:Int))) n;have:=(W1 x n).1;omega
theorem AAy {n:Nat} {p q:Nat->Bool} (h:∀j,j<n->p j=true->q j=true):KN n p<=KN n q:=by
 induction n with
 |zero=>simp [KN]
 |succ n ih=>
  have:=ih (fun j hj=>h j (by omega));rw [Kf,Kf];by_cases e:p n=true
  ·rw [Az e,Az (h n (by omega) e)];omega
  ·rw [A5 e];omega
theorem kJ {n:Nat} {p:Nat->Bool} (h:∀j,j<n->p j=true):KN n p=n:=by
 induction n with
 |zero=>rfl
 |succ n ih=>rw [Kf,Az (h n (by omega)),ih (fun j hj=>h j (by omega))]
section
variable {K:Ks} {R:List Int}
theorem AAq (hK:Do K=true) {r:Int} (hr:DX K r=true) (n:Nat):KN n (Om K r)<=5:=by
 have h1:=Up (fun j=>decide (r=(j:Int))) (fun j=>(Cj K r).Kids.any fun n=>decide (n=(j:Int))) n;have h2:=(W1 r n).1;have h3:=xV (Cj K r).Kids n
 have h4:KN n (Om K r)<=KN n (fun j=>decide (r=(j:Int))||(Cj K r).Kids.any fun n=>decide (n=(j:Int))):=AAy fun j _ h=>by
  unfold Om at h;rw [Aq]at h;exact h.2
 rcases C4 hr with e|⟨h0,hl,_⟩
 ·have:KN n (Om K r)=KN n (fun _=>false):=by rw [e];rfl
  rw [this];unfold KN;rw [Cw.2 (by simp)];simp
 ·have:=(Ii hK h0 hl).1;omega
theorem UE (hK:Do K=true) (n:Nat):∀(R:List Int),(∀r∈R,DX K r=true)->KN n (DI K R)<=5*R.length
 |[],_=>by simp [KN,DI]
 |r::R,h=>by
  have h1:=UE hK n R (fun x hx=>h x (by simp [hx]));have h2:=AAq hK (h r (by simp)) n;have h3:=Up (Om K r) (DI K R) n;have h4:KN n (DI K (r::R))=KN n (fun j=>Om K r j||DI K R j):=rfl;rw [h4,Ax];omega
theorem rU (hK:Do K=true) (hR:∀r∈R,DX K r=true):(Tt K R).length<=5*R.length:=by
 rw [Z7];exact UE hK _ R hR
end
def Ce (s:Store):List Int:=s.Vols.map Vol.Root
structure SC (s:Store):Prop where
 len:s.Vols.length<=3
 ar:Do s.Arena.Knots=true
 nx:1<=s.Next/\s.Next<=1000000000
 ids:∀v∈s.Vols,1<=v.Id/\v.Id<=9
 asc:(s.Vols.map Vol.Id).Pairwise (·<·)
 root:∀r∈Ce s,DX s.Arena.Knots r=true
 lt:∀r∈Ce s,∀x∈EN s.Arena.Knots r,x<s.Next
 few:s.Arena.Knots.length<=1000
structure DS (s:Store):Prop extends SC s where
 used:∀i,i<s.Arena.Knots.length->DI s.Arena.Knots (Ce s) i=true
theorem DS.small {s:Store} (h:DS s):s.Arena.Knots.length<=15:=by
 have h1:=UE h.ar s.Arena.Knots.length (Ce s) h.root;rw [kJ h.used]at h1;have:(Ce s).length=s.Vols.length:=by unfold Ce;rw [B9]
 have:=h.len;omega
def BW (s:Store):List (Int×List Int):=s.Vols.map fun v=>(v.Id,EN s.Arena.Knots v.Root)
def KS (s:Store):Store:=Store.mk (s.Vols.map fun v=>Vol.mk v.Id (PF s.Arena.Knots (Ce s) v.Root)) (Arena.mk (Tt s.Arena.Knots (Ce s))) s.Next
theorem NZ (s:Store):Ce (KS s)=(Ce s).map (PF s.Arena.Knots (Ce s)):=by
 unfold Ce KS;simp only [Ep];rfl
theorem p9 {s:Store} (h:SC s):DS (KS s):=by
 have b:(Ce s).length=s.Vols.length:=by unfold Ce;rw [B9]
 refine⟨⟨by unfold KS;simpa using h.len,AA8 h.ar h.root,h.nx,?_,?_,?_,?_,?_⟩,?_⟩
 ·intro v hv;unfold KS at hv;simp only [AR]at hv;obtain⟨w,hw,rfl⟩:=hv;exact h.ids w hw
 ·have:((KS s).Vols.map Vol.Id)=s.Vols.map Vol.Id:=by unfold KS;simp only [Ep];rfl
  rw [this];exact h.asc
 ·intro r hr;rw [NZ]at hr;obtain⟨q,hq,rfl⟩:=AR.1 hr;exact vH h.root hq
 ·intro r hr;rw [NZ]at hr;obtain⟨q,hq,rfl⟩:=AR.1 hr;have:=qI h.ar h.root hq;intro x hx;have a:x∈EN s.Arena.Knots q:=by rw [<-this];exact hx
  exact h.lt q hq x a
 ·have:=rU h.ar h.root;have:=h.len;show(Tt s.Arena.Knots (Ce s)).length<=1000;omega
 ·intro i hi;rw [NZ];exact zF h.ar h.root hi
theorem YA {s:Store} (h:SC s):BW (KS s)=BW s:=by
 unfold BW;show(s.Vols.map fun v=>Vol.mk v.Id (PF s.Arena.Knots (Ce s) v.Root)).map _=_;rw [Ep];apply CJ;intro v hv;have:=qI h.ar h.root (show v.Root∈Ce s from AR.2 ⟨v,hv,rfl⟩);show(v.Id,EN (Tt s.Arena.Knots (Ce s)) (PF s.Arena.Knots (Ce s) v.Root))=_;rw [this]
theorem Qf (s:Store) (hv:s.Vols.length<=1048576):JL s=some (Ce s):=by
 unfold JL;obtain⟨b,h1,h2⟩:=Bw (body:=fun q:List Int×Int=>FM s q.1 q.2) (fun(o:List Int) i=>(o,i)) s.Vols.length (fun i o=>o=(s.Vols.take i).map Vol.Root) (fun b=>b=Ce s)
  (fun o i hi ho=>by
   have hx:=Ac hi;simp only [FM,Bb,Ad hi,Ag,AN,hx,Aa];rw [CO (by rw [ho];simp;omega)];simp only [Aa];rw [ad1 (by omega)]
   exact .inl ⟨_,rfl,by rw [ho,Eo,hx,C8];rfl⟩)
  (fun o ho=>⟨o,by simp only [FM,Bb,A3,A8,Ae],by rw [ho,Bc (AB _)];rfl⟩) (s:=[]) rfl
 have h1':A0 (fun q:List Int×Int=>FM s q.1 q.2) ([],0)=some b:=h1;rw [h1',h2];rfl
theorem Qe {s:Store} (h:SC s):FL s=some (KS s):=by
 have hl:=h.len;have hf:=h.few;have d:(Ce s).length=s.Vols.length:=by unfold Ce;rw [B9]
 unfold FL;rw [Qf s (by omega)];simp only [Aa];rw [Vq _ (by omega) h.ar _ (by omega) h.root];simp only [Aa];rw [Oz (by omega)];simp only [Aa];have q:=R4 (body:=fun q:Int×List Vol=>GU ((Ce s).map (PF s.Arena.Knots (Ce s)),Tt s.Arena.Knots (Ce s)) q.1 q.2) (fun l i=>(i,l)) (fun _ v=>Vol.mk v.Id (PF s.Arena.Knots (Ce s) v.Root)) s.Vols
  (fun i l x a b c=>by
   have hi:=(Aj.1 b).1;simp only [GU,Bb,Ad hi,Ag];have:gi ((Ce s).map (PF s.Arena.Knots (Ce s))) (i:Int)=some (PF s.Arena.Knots (Ce s) x.Root):=by
    rw [AN,Bh];unfold Ce;rw [Bh,c];rfl
   rw [this,AN,b];simp only [Aa]
   rw [Hp,ad1 (by omega)])
  (fun l a=>by simp only [GU,Cu,a];rw [Af (by omega),Ae])
 rw [Og]at q;rw [q];rfl
theorem uQ {s:Store} (h:DS s):KS s=s:=by
 have c:∀i,i<=s.Arena.Knots.length->YT s.Arena.Knots (Ce s) i=i:=fun i hi=>kJ (fun j hj=>h.used j (by omega))
 have a:∀n:Int,n<(s.Arena.Knots.length:Int)->PF s.Arena.Knots (Ce s) n=n:=fun n hn=>by
  unfold PF;split
  ·rw [c _ (by omega)];omega
  ·rfl
 have b:∀r∈Ce s,PF s.Arena.Knots (Ce s) r=r:=fun r hr=>by
  rcases C4 (h.root r hr)with e|⟨h0,h1,_⟩
  ·rw [e,PD (by omega)]
  ·exact a r h1
 have d:Tt s.Arena.Knots (Ce s)=s.Arena.Knots:=by
  unfold Tt;rw [FY.2 (fun i hi=>h.used i (by simpa using hi))];apply CR;intro i;rw [Bh];by_cases hi:i<s.Arena.Knots.length
  ·rw [OI hi,Ac hi];simp only [B8];congr 1;have h0:(0:Int)<=(i:Int):=by omega
   have h1:(i:Int)<(s.Arena.Knots.length:Int):=by omega
   unfold lK
   cases hl:(Cj s.Arena.Knots (i:Int)).Leaf with
   |true=>
    simp only [Ag];rw [<-hl,Ns hi]
   |false=>
    simp only [Ae];have:(Cj s.Arena.Knots (i:Int)).Kids.map (PF s.Arena.Knots (Ce s))=(Cj s.Arena.Knots (i:Int)).Kids:=by
     conv=>rhs;rw [<-QO (Cj s.Arena.Knots (i:Int)).Kids]
     apply CJ;intro n hn;obtain⟨q,hq,rfl⟩:=AK hn;obtain⟨h4,hk⟩:=Ii h.ar h0 h1;have e5:=(hk q (by omega)).1;rw [Ac hq]at e5
     injection e5 with e5
     rw [e5]
     rcases Hf h.ar h0 h1 hl (show q<4 by omega)with k1|⟨k1,k2,k3⟩
     ·rw [k1,PD (by omega)];rfl
     ·exact a _ (by omega)
    rw [this,<-hl,Ns hi]
  ·rw [Dl (by simpa using hi),Dl (by omega)];rfl
 unfold KS;rw [d];have:(s.Vols.map fun v=>Vol.mk v.Id (PF s.Arena.Knots (Ce s) v.Root))=s.Vols:=by
  conv=>rhs;rw [<-QO s.Vols]
  apply CJ;intro v hv;rw [b _ (AR.2 ⟨v,hv,rfl⟩)];rfl
 rw [this]
theorem W4 {K:Ks} {r:Int} {s:Nat} (hs:s<16):Py K r s∈EN K r:=AR.2 ⟨s,by simpa using hs,rfl⟩
theorem Pi {l:List Int} (h:l.Pairwise (·<·)) {i j:Nat} {x y:Int} (a:i<j) (hx:l[i]?=some x) (hy:l[j]?=some y):x<y:=by
 obtain⟨h1,rfl⟩:=Aj.1 hx;obtain⟨h2,rfl⟩:=Aj.1 hy;exact Kz.1 h i j h1 h2 a
theorem SY {s:Store} (h:DS s):LB s=some true:=by
 have hl:=h.len;have hf:=h.few;have d:(Ce s).length=s.Vols.length:=by unfold Ce;rw [B9]
 unfold LB;rw [Cu,Af (by omega),Ae,Ly _ (by omega),h.ar,Ek,Ad h.nx];simp only [Aa,As,Ae];obtain⟨b,h1,h2⟩:=Bw (body:=fun q:Int=>GE s q) (fun(_:Unit) i=>i) s.Vols.length (fun _ _=>True) (fun b=>b= .inl ())
  (fun _ i hi _=>by
   have hx:=Ac hi;have hm:s.Vols[i]∈s.Vols:=AP hi;have hr:s.Vols[i].Root∈Ce s:=AR.2 ⟨_,hm,rfl⟩;simp only [GE,Bb,Ad hi,Ag,AN,hx,Aa];rw [Ek,Ad (h.ids _ hm),Lw _ (by omega),h.root _ hr];simp only [Aa,As,Ae];have a:(bif(decide ((i:Int)>0))then((gi s.Vols (sb (i:Int) 1)).bind fun x2=>bif(decide (x2.Id>=s.Vols[i].Id))then(some true)else(some false))else(some false):Option Bool)=some false:=by
    by_cases h0:i=0
    ·rw [Af (by omega:¬(i:Int)>0),Ae]
    ·rw [Ad (by omega:(i:Int)>0),Ag,C3 (by omega) (by omega),show(i:Int)-1=((i-1:Nat):Int) by omega,AN,Ac (by omega)];simp only [Aa];have:=Pi h.asc (show i-1<i by omega) (x:=s.Vols[i-1].Id) (y:=s.Vols[i].Id) (by rw [Bh,Ac (by omega)];rfl) (by rw [Bh,Ac (by omega)];rfl);rw [Af (by omega),Ae]
   rw [a];simp only [Aa,Ae];obtain⟨c,q1,q2⟩:=Bw (body:=fun q:Int=>GD s s.Vols[i] q) (fun(_:Unit) i=>i) 16 (fun _ _=>True) (fun b=>b= .inl ())
    (fun _ k hk _=>by
     simp only [GD];rw [Ad (by omega:(k:Int)<16),Ag,SQ _ h.ar (h.root _ hr) hk];simp only [Aa];have:=h.lt _ hr _ (W4 hk);rw [Af (by omega),Ae,ad1 (by omega)]
     exact .inl ⟨(),rfl,trivial⟩)
    (fun _ _=>⟨_,by simp only [GD];rw [Af (by omega:¬((16:Nat):Int)<16),Ae],rfl⟩) (s:=()) trivial
   have q1':A0 (fun q:Int=>GD s s.Vols[i] q) 0=some c:=q1;rw [q1',q2];simp only [Aa,Cl];rw [ad1 (by omega)]
   exact .inl ⟨(),rfl,trivial⟩)
  (fun _ _=>⟨_,by simp only [GE,Bb,A3,A8,Ae],rfl⟩) (s:=()) trivial
 have h1':A0 (fun q:Int=>GE s q) 0=some b:=h1;rw [h1',h2];simp only [Aa,Cl];rw [Qf s (by omega)];simp only [Aa];rw [Vq _ (by omega) h.ar _ (by omega) h.root];simp only [Aa];have:Tt s.Arena.Knots (Ce s)=s.Arena.Knots:=by
  have:=uQ h;unfold KS at this;have:=Dn (fun z=>z.Arena.Knots) this;exact this
 rw [this];simp
end Go.TI
namespace Go.TI
open Go
abbrev Vs:=List (Int×List Int)
def KX (l:Vs) (id:Int):Option (List Int):=(l.find? fun p=>p.1==id).map Prod.snd
def tG (l:Vs) (id:Int) (row:List Int):Vs:=(l.filter fun p=>decide (p.1<id))++ [(id,row)]++l.filter fun p=>decide (p.1>id)
def ACN (l:Vs) (id:Int):Vs:=l.filter fun p=>p.1 !=id
def mF (l:Vs) (id:Int) (s:Nat) (n:Int):Vs:=l.map fun p=>if p.1=id then(p.1,p.2.set s n)else p
def HV (r:Dk):Bool:=decide (0<=r.Arg/\r.Arg<=1000000000)&&(bif r.Kind==1 then r.Vol==0&&r.Chunk==0 else decide (2<=r.Kind/\r.Kind<=5)&&decide (1<=r.Vol/\r.Vol<=9)&&(r.Kind==4||r.Chunk==0)&&
 (bif r.Kind==2 then decide (r.Arg<=9)else bif r.Kind==3 then r.Arg==0 else bif r.Kind==4 then decide (r.Arg<16)&&decide (1<=r.Chunk/\r.Chunk<=1000000000)else decide (r.Arg<16)))
def QT:List Int:=List.replicate 16 0
def DR (l:Vs) (nx:Int) (r:Dk):Option (Vs×Int):=
 if HV r=false then none
 else if r.Kind=1 then some ([],if r.Arg=0 then 1 else r.Arg)
 else if r.Kind=2 then
  if(0<r.Arg/\KX l r.Arg=none)\/KX l r.Vol≠none\/l.length=3 then none
  else some (tG l r.Vol (if 0<r.Arg then(KX l r.Arg).getD QT else QT),nx)
 else if KX l r.Vol=none\/r.Chunk=1000000000 then none
 else if r.Kind=3 then some (ACN l r.Vol,nx)
 else some (mF l r.Vol r.Arg.toNat r.Chunk,max nx (r.Chunk+1))
theorem P9 (r:Dk):NR r=some (HV r):=by
 unfold NR HV;simp only [Ek,Aa]
 cases decide (0<=r.Arg/\r.Arg<=1000000000)with
 |false=>rfl
 |true=>
  simp only [As,Ae,CS]
  cases r.Kind==1 with
  |true=>
   simp only [Ag];cases r.Vol==0<;>rfl
  |false=>
   simp only [Ae]
   cases decide (2<=r.Kind/\r.Kind<=5)with
   |false=>rfl
   |true=>
    cases decide (1<=r.Vol/\r.Vol<=9)with
    |false=>rfl
    |true=>
     have e1:(r.Kind !=4)=!(r.Kind==4):=rfl;have e2:(r.Chunk !=0)=!(r.Chunk==0):=rfl;rw [e1,e2];cases r.Kind==4<;>cases r.Chunk==0<;>cases r.Kind==2<;>cases r.Kind==3<;>cases decide (r.Arg<16)<;>rfl
theorem Iz (s:Store) (hv:s.Vols.length<=1048576) (id:Int):(ED s id=some (-1)/\∀v∈s.Vols,v.Id≠id)\/∃k:Nat,∃v,ED s id=some (k:Int)/\s.Vols[k]?=some v/\v.Id=id/\∀j w,j<k->s.Vols[j]?=some w->w.Id≠id:=by
 unfold ED;obtain⟨b,h1,h2⟩:=Bw (body:=fun q:Int=>EU s id q) (fun(_:Unit) i=>i) s.Vols.length (fun i _=>∀j w,j<i->s.Vols[j]?=some w->w.Id≠id)
  (fun b=>(b= .inl ()/\∀v∈s.Vols,v.Id≠id)\/∃k:Nat,∃v,b= .inr (k:Int)/\s.Vols[k]?=some v/\v.Id=id/\∀j w,j<k->s.Vols[j]?=some w->w.Id≠id)
  (fun _ i hi hs=>by
   have hx:=Ac hi;simp only [EU,Bb,Ad hi,Ag,AN,hx,Aa]
   cases e:(s.Vols[i].Id==id)with
   |true=>exact .inr ⟨_,rfl,.inr ⟨i,_,rfl,hx,by simpa using e,hs⟩⟩
   |false=>
    simp only [Ae];rw [ad1 (by omega)];refine .inl ⟨(),rfl,fun j w hj hw=>?_⟩;by_cases e2:j=i
    ·subst e2;rw [hx]at hw
     injection hw with hw
     rw [<-hw];simpa using e
    ·exact hs j w (by omega) hw)
  (fun _ hs=>⟨_,by simp only [EU,Bb,A3,A8,Ae],.inl ⟨rfl,fun v hv=>by
   obtain⟨j,hj,rfl⟩:=AK hv
   exact hs j _ hj (Ac hj)⟩⟩) (s:=()) (fun j w hj=>by omega)
 have h1':A0 (fun q:Int=>EU s id q) 0=some b:=h1;rw [h1']
 rcases h2 with⟨rfl,h2⟩|⟨k,v,rfl,h2⟩
 ·exact .inl ⟨rfl,h2⟩
 ·exact .inr ⟨k,v,rfl,h2⟩
theorem N0 {s:Store} {id:Int}:(∀v∈s.Vols,v.Id≠id)↔KX (BW s) id=none:=by
 unfold KX BW;rw [Option.map_eq_none_iff,EO];constructor
 ·intro h p hp;obtain⟨v,hv,rfl⟩:=AR.1 hp;simpa using h v hv
 ·intro h v hv;have:=h _ (AR.2 ⟨v,hv,rfl⟩);simpa using this
theorem AAz {s:Store} (h:(s.Vols.map Vol.Id).Pairwise (·<·)) {v w:Vol} (hv:v∈s.Vols) (hw:w∈s.Vols) (e:v.Id=w.Id):v=w:=by
 obtain⟨i,hi,rfl⟩:=AK hv;obtain⟨j,hj,rfl⟩:=AK hw;have gi:(s.Vols.map Vol.Id)[i]?=some s.Vols[i].Id:=by rw [Bh,Ac hi];rfl
 have gj:(s.Vols.map Vol.Id)[j]?=some s.Vols[j].Id:=by rw [Bh,Ac hj];rfl
 rcases M2 i j with h1|h1|h1
 ·have:=Pi h h1 gi gj;omega
 ·subst h1;rfl
 ·have:=Pi h h1 gj gi;omega
theorem LH {s:Store} (h:(s.Vols.map Vol.Id).Pairwise (·<·)) {v:Vol} (hv:v∈s.Vols):KX (BW s) v.Id=some (EN s.Arena.Knots v.Root):=by
 unfold KX;have hm:(v.Id,EN s.Arena.Knots v.Root)∈BW s:=AR.2 ⟨v,hv,rfl⟩
 cases hf:(BW s).find? fun p=>p.1==v.Id with
 |none=>
  rw [EO]at hf;have:=hf _ hm;simp at this
 |some p=>
  have h1:=List.find?_some hf;have h2:=K0 hf;obtain⟨w,hw,rfl⟩:=AR.1 h2;have:w=v:=AAz h hw hv (by simpa using h1);rw [this];rfl
theorem NA (s:Store):(BW s).length=s.Vols.length:=by unfold BW;rw [B9]
theorem iW (K:Ks):EN K (-1)=QT:=by
 unfold EN QT;rw [<-Ch (n:=16),<-Lp,Ch];apply CJ;intro s hs;rfl
theorem pA (s:Store) (p:Int->Bool) (t:Store) (hk:t.Arena=s.Arena) (hv:t.Vols=s.Vols.filter fun v=>p v.Id):BW t=(BW s).filter fun q=>p q.1:=by
 unfold BW;rw [hk,hv,List.filter_map];rfl
theorem Zh {body:List Vol×Int->Option ((List Vol×Int)⊕List Vol)} (l:List Vol) (p:Vol->Bool) (o:List Vol) (hM:l.length+o.length<=1048576)
  (h1:∀(i:Nat) v (out:List Vol),l[i]?=some v->out.length<=1048576->body (out,(i:Int))=some (.inl (bif p v then out++ [v]else out,((i+1:Nat):Int)))) (h2:∀out,body (out,(l.length:Int))=some (.inr out)):
  A0 body (o,0)=some (o++l.filter p):=by
 obtain⟨b,h3,h4⟩:=Bw (body:=body) (fun(q:List Vol) i=>(q,i)) l.length (fun i q=>q=o++(l.take i).filter p) (fun b=>b=o++l.filter p)
  (fun q i hi hq=>by
   have hx:=Ac hi;refine .inl ⟨_,h1 i _ q hx ?_,?_⟩
   ·rw [hq,Ai];have:=CI p (l.take i);rw [AI]at this;omega
   ·rw [hq,Eo,hx,Bf]
    cases e:p l[i]with
    |true=>simp [e]
    |false=>simp [e])
  (fun q hq=>⟨q,h2 q,by rw [hq,Bc (AB _)]⟩) (s:=o) (by simp)
 rw [h3,h4]
theorem wU {K:Ks} {R R':List Int} (h:∀r∈R,r∈R') {i:Nat} (hu:DI K R i=true):DI K R' i=true:=by
 unfold DI at hu⊢;rw [D9]at hu⊢;obtain⟨r,hr,h2⟩:=hu;exact⟨r,h r hr,h2⟩
theorem mC {l:List Vol} (h:(l.map Vol.Id).Pairwise (·<·)) (v:Vol):(((l.filter fun w=>decide (w.Id<v.Id))++ [v]++l.filter fun w=>decide (w.Id>v.Id)).map Vol.Id).Pairwise (·<·):=by
 rw [M3]at h;rw [M3,Ap,Bv];refine⟨h.filter _,?_,?_⟩
 ·rw [Cd,CD];exact⟨fun w hw=>by simpa using(AY.1 hw).2,h.filter _⟩
 ·intro a ha b hb;have h1:a.Id<v.Id:=by simpa using(AY.1 ha).2
  rw [Cd,BL]at hb
  rcases hb with rfl|hb
  ·exact h1
  ·have:b.Id>v.Id:=by simpa using(AY.1 hb).2
   omega
theorem rX (l:List Vol) (id:Int):(l.filter fun w=>decide (w.Id<id)).length+(l.filter fun w=>decide (w.Id>id)).length<=l.length:=by
 induction l with
 |nil=>simp
 |cons v l ih=>
  simp only [List.filter_cons,Ax];by_cases h1:v.Id<id
  ·rw [Az (by simpa using h1),A5 (by simp;omega),Ax];omega
  ·rw [A5 (by simpa using h1)];split
   ·rw [Ax];omega
   ·omega
def Oi (s:Store) (r:Dk) (o:Option (Store×Bool)):Prop:=match DR (BW s) s.Next r with
 |none=>o=some (s,false)
 |some (l,nx)=>∃t,o=some (t,true)/\DS t/\BW t=l/\t.Next=nx
theorem tM {s:Store} (h:DS s) {r:Dk} (hr:HV r=true) (hk:r.Kind=2):Oi s r (K3 s r):=by
 have hl:=h.len;have c:=RQ h.ar (by have:=h.few;omega);have a:=Lv s c (by omega);have hb:HV r=true:=hr;unfold HV at hr;rw [hk]at hr;simp at hr;unfold Oi DR;rw [hb,hk];simp only [Iv,Jz,Cg,show¬((2:Int)=1) by omega];unfold K3;have root:(KX (BW s) r.Arg=none/\0<r.Arg/\(bif(decide (r.Arg>0))then((ED s r.Arg).bind fun v1=>bif(decide (v1<0))then((DZ s).bind fun v2=>some (.inr (v2,false)))else((gi s.Vols v1).bind fun x1=>some (.inl x1.Root)))else(some (.inl (-1))):Option ((Int)⊕((Store×Bool))))=some (.inr (s,false)))\/
   (¬(0<r.Arg/\KX (BW s) r.Arg=none)/\∃q,DX s.Arena.Knots q=true/\(q= -1\/q∈Ce s)/\EN s.Arena.Knots q=(if 0<r.Arg then(KX (BW s) r.Arg).getD QT else QT)/\(bif(decide (r.Arg>0))then((ED s r.Arg).bind fun v1=>bif(decide (v1<0))then((DZ s).bind fun v2=>some (.inr (v2,false)))else((gi s.Vols v1).bind fun x1=>some (.inl x1.Root)))else(some (.inl (-1))):Option ((Int)⊕((Store×Bool))))=some (.inl q)):=by
  by_cases h0:0<r.Arg
  ·rw [Ad (by omega:r.Arg>0)];simp only [Ag]
   rcases Iz s (by omega) r.Arg with⟨h1,h2⟩|⟨k,v,h1,h2,h3,_⟩
   ·left;rw [h1,a];exact⟨N0.1 h2,h0,rfl⟩
   ·right;rw [h1];have hm:=AM h2;have hg:=LH h.asc hm;rw [h3]at hg;refine⟨fun hh=>(by rw [hg]at hh;cases hh.2),v.Root,h.root _ (AR.2 ⟨v,hm,rfl⟩),.inr (AR.2 ⟨v,hm,rfl⟩),?_,?_⟩
    ·rw [Az h0,hg];rfl
    ·simp only [Aa];rw [Af (by omega),Ae,AN,h2];rfl
  ·right;rw [Af (by omega:¬r.Arg>0),A5 h0];exact⟨fun hh=>h0 hh.1,-1,rfl,.inl rfl,iW _,rfl⟩
 rcases root with⟨g1,g2,g3⟩|⟨g1,q,g2,g3,g4,g5⟩
 ·rw [g3,Az (.inl ⟨g2,g1⟩)];rfl
 ·rw [g5];simp only [Aa,Cl]
  rcases Iz s (by omega) r.Vol with⟨h1,h2⟩|⟨k,v,h1,h2,h3,_⟩
  ·rw [h1];simp only [Aa];rw [Af (by omega),Ae,Cu];have g:KX (BW s) r.Vol=none:=N0.1 h2;by_cases h3:s.Vols.length=3
   ·rw [h3,Az (.inr (.inr (by rw [NA,h3])))];simp only [Aa];rw [a];rfl
   ·have e3:((s.Vols.length:Int)==3)=false:=by simp;omega
    rw [e3,A5 (by
     rintro(hh|hh|hh)
     ·exact g1 hh
     ·exact hh g
     ·rw [NA]at hh;exact h3 hh)]
    simp only [Aa,Ae];rw [a];simp only [Aa];have k1:=Zh (body:=fun q:List Vol×Int=>IH s r q.1 q.2) s.Vols (fun v=>decide (v.Id<r.Vol)) [] (by simp;omega)
     (fun i v out hv ho=>by
      have hi:=(Aj.1 hv).1;simp only [IH,Bb,Ad hi,Ag,AN,hv,Aa];rw [ad1 (by omega)]
      cases decide (v.Id<r.Vol)with
      |true=>simp only [Ag];rw [CO (by simp;omega)];rfl
      |false=>rfl)
     (fun out=>by simp only [IH,Bb,A3,A8,Ae])
    rw [A6]at k1;rw [k1];simp only [Aa];have j:=rX s.Vols r.Vol;rw [CO (by simp;omega)];simp only [Aa];have k2:=Zh (body:=fun q:List Vol×Int=>IG s r q.1 q.2) s.Vols (fun v=>decide (v.Id>r.Vol)) ((s.Vols.filter fun v=>decide (v.Id<r.Vol))++ [Vol.mk r.Vol q]) (by simp;omega)
     (fun i v out hv ho=>by
      have hi:=(Aj.1 hv).1;simp only [IG,Bb,Ad hi,Ag,AN,hv,Aa];rw [ad1 (by omega)]
      cases decide (v.Id>r.Vol)with
      |true=>simp only [Ag];rw [CO (by simp;omega)];rfl
      |false=>rfl)
     (fun out=>by simp only [IG,Bb,A3,A8,Ae])
    rw [k2];simp only [Aa];have d:((s.Vols.filter fun v=>decide (v.Id<r.Vol))++ [Vol.mk r.Vol q]++s.Vols.filter fun v=>decide (v.Id>r.Vol)).length<=3:=by simp only [Ai,Ax,Bm];omega
    have f:∀x∈Ce s,x∈(Ce (Store.mk ((s.Vols.filter fun v=>decide (v.Id<r.Vol))++ [Vol.mk r.Vol q]++s.Vols.filter fun v=>decide (v.Id>r.Vol)) s.Arena s.Next)):=by
     intro x hx;obtain⟨v,hv,rfl⟩:=AR.1 hx;refine AR.2 ⟨v,?_,rfl⟩;have:=h2 v hv;simp only [Al,AY,AA];by_cases e:v.Id<r.Vol
     ·exact .inl (.inl ⟨hv,by simpa using e⟩)
     ·exact .inr ⟨hv,by simp;omega⟩
    have b:∀x∈(Ce (Store.mk ((s.Vols.filter fun v=>decide (v.Id<r.Vol))++ [Vol.mk r.Vol q]++s.Vols.filter fun v=>decide (v.Id>r.Vol)) s.Arena s.Next)),x= -1\/x∈Ce s:=by
     intro x hx;obtain⟨v,hv,rfl⟩:=AR.1 hx;simp only [Al,AY,AA]at hv
     rcases hv with(hv|rfl)|hv
     ·exact .inr (AR.2 ⟨v,hv.1,rfl⟩)
     ·exact g3
     ·exact .inr (AR.2 ⟨v,hv.1,rfl⟩)
    refine⟨_,rfl,⟨⟨d,h.ar,h.nx,?_,mC h.asc (Vol.mk r.Vol q),?_,?_,h.few⟩,?_⟩,?_,rfl⟩
    ·intro v hv;simp only [Al,AY,AA]at hv
     rcases hv with(hv|rfl)|hv
     ·exact h.ids v hv.1
     ·show 1<=r.Vol/\r.Vol<=9;omega
     ·exact h.ids v hv.1
    ·intro x hx
     rcases b x hx with e|e
     ·rw [e];rfl
     ·exact h.root x e
    ·intro x hx
     rcases b x hx with e|e
     ·intro y hy;rw [e]at hy;change y∈EN s.Arena.Knots (-1)at hy;rw [iW]at hy;have:=DO hy;have:=h.nx;show y<s.Next;omega
     ·exact h.lt x e
    ·intro i hi;exact wU f (h.used i hi)
    ·rw [<-g4];unfold tG BW;simp only [C8,BT,pK,List.filter_map];rfl
  ·rw [h1];simp only [Aa];rw [Ad (by omega),Ag];have hg:=LH h.asc (AM h2);rw [h3]at hg;rw [Az (.inr (.inl (by rw [hg];simp)))];simp only [Aa,Ag];rw [a];rfl
theorem Yw {l:List Vol} (h:(l.map Vol.Id).Pairwise (·<·)) {k:Nat} {v:Vol} (hv:l[k]?=some v):l.take k++l.drop (k+1)=l.filter fun w=>w.Id !=v.Id:=by
 rw [M3]at h;have hk:=(Aj.1 hv).1;have e:l=l.take k++v::l.drop (k+1):=by
  have h2:=Bs hk;rw [(Aj.1 hv).2]at h2;rw [<-h2,Bu]
 rw [e,Bv]at h;obtain⟨h1,h2,h3⟩:=h;rw [CD]at h2
 conv=>rhs;rw [e]
 rw [Bf,Cr (by simp)];congr 1
 ·symm;rw [FY];intro w hw;have:=h3 w hw v (by simp);simp;omega
 ·symm;rw [FY];intro w hw;have:=h2.1 w hw;simp;omega
theorem xI {s:Store} (h:DS s) (r:Dk):Oi s r (Rr s r):=by
 have hl:=h.len;have g:=RQ h.ar (by have:=h.few;omega);have a:=Lv s g (by omega);unfold Rr;rw [SY h,P9];simp only [Aa,As,Ae]
 cases hb:HV r with
 |false=>
  simp only [Bk,Ag];rw [a];unfold Oi DR;rw [hb];rfl
 |true=>
  simp only [As,Ae];have hr:=hb;unfold HV at hr
  cases k1:(r.Kind==1)with
  |true=>
   have e1:r.Kind=1:=by simpa using k1
   rw [e1]at hr;simp at hr;unfold Oi DR;rw [hb,e1];simp only [Iv,Jz,Cg,Ag];have:(bif(r.Arg==0)then(some 1)else(some r.Arg):Option (Int))=some (if r.Arg=0 then 1 else r.Arg):=by
    by_cases e:r.Arg=0
    ·rw [Az e,e];rfl
    ·rw [A5 e,show(r.Arg==0)=false by simpa using e];rfl
   rw [this];refine⟨_,rfl,⟨⟨by simp,rfl,?_,by simp,by simp,by simp [Ce],by simp [Ce],by simp⟩,by simp⟩,rfl,rfl⟩;show 1<=(if r.Arg=0 then 1 else r.Arg)/\(if r.Arg=0 then 1 else r.Arg)<=1000000000;split<;>omega
  |false=>
   simp only [Ae];have n1:r.Kind≠1:=by simpa using k1
   rw [k1]at hr
   cases k2:(r.Kind==2)with
   |true=>
    simp only [Ag];have:=tM h hb (by simpa using k2);have e:((K3 s r).bind fun v4=>some (v4.1,v4.2))=K3 s r:=by cases K3 s r<;>rfl
    rw [e];exact this
   |false=>
    simp only [Ae];have n2:r.Kind≠2:=by simpa using k2
    rw [k2]at hr;have hv:1<=r.Vol/\r.Vol<=9:=by simp at hr;omega
    unfold Oi DR;rw [hb];simp only [Iv,Jz,A5 n1,A5 n2]
    rcases Iz s (by omega) r.Vol with⟨h1,h2⟩|⟨k,v,h1,h2,h3,_⟩
    ·rw [h1];simp only [Aa];rw [Ad (by omega),Ag,Az (.inl (N0.1 h2))];simp only [Aa,Ag];rw [a];rfl
    ·rw [h1];simp only [Aa];rw [Af (by omega),Ae];simp only [Aa];have hm:=AM h2;have i:=(Aj.1 h2).1;have hg:=LH h.asc hm;rw [h3]at hg
     cases hc:(r.Chunk==1000000000)with
     |true=>
      simp only [Ag];rw [Az (.inr (by simpa using hc)),a];rfl
     |false=>
      simp only [Ae];have m:r.Chunk≠1000000000:=by simpa using hc
      rw [A5 (by
       rintro(hh|hh)
       ·rw [hg]at hh;cases hh
       ·exact m hh),a]
      simp only [Aa]
      cases k3:(r.Kind==3)with
      |true=>
       have e3:r.Kind=3:=by simpa using k3
       rw [Az e3];simp only [Ag];rw [Cu,ad1 (by omega)];have d1:dr s.Vols 0 (k:Int)=some (s.Vols.take k):=by
        unfold dr;rw [Az ⟨by omega,by omega,by omega⟩];simp
       have d2:dr s.Vols ((k+1:Nat):Int) (s.Vols.length:Int)=some (s.Vols.drop (k+1)):=by
        unfold dr;rw [Az ⟨by omega,by omega,by omega⟩,B7,B7,Bc (by simp)]
       rw [d1,d2];simp only [Aa];rw [Oz (by simp;omega)];simp only [Aa];rw [CO (by simp;omega),Yw h.asc h2,h3];simp only [Aa];have hR:SC (Store.mk (s.Vols.filter fun w=>w.Id !=r.Vol) s.Arena s.Next):=by
        refine⟨?_,h.ar,h.nx,fun v hv=>h.ids v (AY.1 hv).1,?_,?_,?_,h.few⟩
        ·have:=CI (fun w:Vol=>w.Id !=r.Vol) s.Vols;show(s.Vols.filter fun w=>w.Id !=r.Vol).length<=3;omega
        ·have:=h.asc;rw [M3]at this⊢;exact this.filter _
        ·intro x hx;obtain⟨w,hw,rfl⟩:=AR.1 hx;exact h.root _ (AR.2 ⟨w,(AY.1 hw).1,rfl⟩)
        ·intro x hx;obtain⟨w,hw,rfl⟩:=AR.1 hx;exact h.lt _ (AR.2 ⟨w,(AY.1 hw).1,rfl⟩)
       rw [Qe hR];refine⟨_,rfl,p9 hR,?_,rfl⟩;rw [YA hR];exact pA s (fun id=>id !=r.Vol) _ rfl rfl
      |false=>
       have n3:r.Kind≠3:=by simpa using k3
       rw [A5 n3];simp only [Ae];rw [k3]at hr;have ha:0<=r.Arg/\r.Arg<16/\0<=r.Chunk/\r.Chunk<=1000000000:=by
        cases k4:(r.Kind==4)with
        |true=>rw [k4]at hr;simp at hr;omega
        |false=>rw [k4]at hr;simp at hr;omega
       obtain⟨t,ht⟩:∃t:Nat,r.Arg=(t:Int):=⟨_,(B5 ha.1).symm⟩;rw [AN,h2];simp only [Aa];have c:=h.root _ (AR.2 ⟨v,hm,rfl⟩);rw [ht,nA _ (by have:=h.few;omega) h.ar c (by omega) ha.2.2.1];simp only [Aa];rw [Hp];have h0:=h.small;have hR:SC (Store.mk (s.Vols.set k (Vol.mk v.Id ((s.Arena.Knots.length:Int)+1))) (Arena.mk (JU s.Arena.Knots v.Root t r.Chunk)) (max s.Next (r.Chunk+1))):=by
        have d:∀w∈s.Vols.set k (Vol.mk v.Id ((s.Arena.Knots.length:Int)+1)),w∈s.Vols\/w=Vol.mk v.Id ((s.Arena.Knots.length:Int)+1):=fun w hw=>DC hw
        refine⟨by simpa using hl,ABg h.ar c (by omega) ha.2.2.1,?_,?_,?_,?_,?_,?_⟩
        ·have:=h.nx;show 1<=max s.Next (r.Chunk+1)/\max s.Next (r.Chunk+1)<=1000000000;omega
        ·intro w hw
         rcases d w hw with hw|rfl
         ·exact h.ids w hw
         ·exact h.ids v hm
        ·have:(s.Vols.set k (Vol.mk v.Id ((s.Arena.Knots.length:Int)+1))).map Vol.Id=s.Vols.map Vol.Id:=by
          rw [List.map_set];show(s.Vols.map Vol.Id).set k v.Id=_;apply CR;intro j;rw [Cq];split
          ·rename_i e;subst e;rw [B9,Az i,Bh,h2];rfl
          ·rfl
         rw [this];exact h.asc
        ·intro x hx;obtain⟨w,hw,rfl⟩:=AR.1 hx
         rcases d w hw with hw|rfl
         ·exact vE (h.root _ (AR.2 ⟨w,hw,rfl⟩))
         ·exact sI
        ·intro x hx y hy;obtain⟨w,hw,rfl⟩:=AR.1 hx;show y<max s.Next (r.Chunk+1)
         rcases d w hw with hw|rfl
         ·have o:=h.root _ (AR.2 ⟨w,hw,rfl⟩);have f:y∈EN s.Arena.Knots w.Root:=by rw [<-qD (X:=[BU.mk true (O8 s.Arena.Knots v.Root t r.Chunk),BU.mk false (QX s.Arena.Knots v.Root t)]) h.ar o];exact hy
          have:=h.lt _ (AR.2 ⟨w,hw,rfl⟩) y f;omega
         ·have f:y∈(EN s.Arena.Knots v.Root).set t r.Chunk:=by rw [<-qK (s:=t) (n:=r.Chunk) h.ar c (by omega)];exact hy
          rcases DC f with f|rfl
          ·have:=h.lt _ (AR.2 ⟨v,hm,rfl⟩) y f;omega
          ·omega
        ·show(JU s.Arena.Knots v.Root t r.Chunk).length<=1000;unfold JU;simp;omega
       have l:BW (Store.mk (s.Vols.set k (Vol.mk v.Id ((s.Arena.Knots.length:Int)+1))) (Arena.mk (JU s.Arena.Knots v.Root t r.Chunk)) (max s.Next (r.Chunk+1)))=mF (BW s) r.Vol t r.Chunk:=by
        unfold BW mF;simp only [Ep];apply CR;intro j;rw [Bh,Bh,Cq];by_cases e:k=j
        ·subst e;rw [Az rfl,Az i,h2];simp only [B8,Function.comp];rw [Az h3,qK h.ar c (by omega)]
        ·rw [A5 e]
         cases hj:s.Vols[j]? with
         |none=>rfl
         |some w=>
          have p:=AM hj;have u:w.Id≠r.Vol:=by
           intro e2;have gi:(s.Vols.map Vol.Id)[k]?=some v.Id:=by rw [Bh,h2];rfl
           have gj:(s.Vols.map Vol.Id)[j]?=some w.Id:=by rw [Bh,hj];rfl
           rcases M2 k j with q|q|q
           ·have:=Pi h.asc q gi gj;omega
           ·exact e q
           ·have:=Pi h.asc q gj gi;omega
          simp only [B8,Function.comp];rw [A5 u];have:=qD (X:=[BU.mk true (O8 s.Arena.Knots v.Root t r.Chunk),BU.mk false (QX s.Arena.Knots v.Root t)]) h.ar (h.root _ (AR.2 ⟨w,p,rfl⟩));unfold JU;rw [this]
       have z:∀b:Bool,b=decide (r.Chunk>=s.Next)->(bif b then((FL (Store.mk (s.Vols.set k (Vol.mk v.Id ((s.Arena.Knots.length:Int)+1))) (Arena.mk (JU s.Arena.Knots v.Root t r.Chunk)) (ad r.Chunk 1))).bind fun v11=>some (v11,true))else((FL (Store.mk (s.Vols.set k (Vol.mk v.Id ((s.Arena.Knots.length:Int)+1))) (Arena.mk (JU s.Arena.Knots v.Root t r.Chunk)) s.Next)).bind fun v12=>some (v12,true)))=(FL (Store.mk (s.Vols.set k (Vol.mk v.Id ((s.Arena.Knots.length:Int)+1))) (Arena.mk (JU s.Arena.Knots v.Root t r.Chunk)) (max s.Next (r.Chunk+1)))).bind fun v=>some (v,true):=by
        intro b hb;have:=h.nx;by_cases e:r.Chunk>=s.Next
        ·rw [hb,Ad e,Ag,C6 (by omega) (by omega),show max s.Next (r.Chunk+1)=r.Chunk+1 by omega]
        ·rw [hb,Af e,Ae,show max s.Next (r.Chunk+1)=s.Next by omega]
       rw [z _ rfl,Qe hR];refine⟨_,rfl,p9 hR,?_,rfl⟩;rw [YA hR,l,B7]
end Go.TI
