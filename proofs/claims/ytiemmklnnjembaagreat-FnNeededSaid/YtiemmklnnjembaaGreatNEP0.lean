/- What is needed on all blocks of a drawn device. No condition. -/
import Derived.Test.YtiemmklnnjembaaGreatNED
namespace Go.TI
open Go
def u32 (s:Int):Prop:=0<=s/\s<4294967296
theorem pA (s:Int) (hs:u32 s):∃v,A0 (fun s:Int×Int=>GE s.1 s.2) (s,0)=some v/\A0 (fun s:Int×Int=>GL s.1 s.2) (s,0)=some v/\u32 v:=
 jK (body:=fun s:Int×Int=>GE s.1 s.2) (body':=fun s:Int×Int=>GL s.1 s.2) (fun(s:Int) i=>(s,i)) 8 (fun _ s=>u32 s) u32
  (fun s i hi hs=>by
   simp only [GE,GL];rw [Ad (by omega:(i:Int)<8),Ag,Ag,an1 hs.1 hs.2,<-ABO hs.1 hs.2];refine⟨rfl,.inl ?_⟩;have hw:u32 (IntKind.u32.wrap (Int.tdiv s 2)):=by rw [IntKind.wrap_u32];constructor<;>omega
   cases Int.tmod s 2==1
   ·exact⟨_,by rw [Ae,ad1 (by omega)],hw⟩
   ·exact⟨_,by rw [Ag,ad1 (by omega)],AAA _ _⟩)
  (fun s hs=>by
   simp only [GE,GL]
   exact⟨rfl,s,rfl,hs⟩) (s:=s) hs
theorem o9 (s:Int) (t:ByteArray) (hs:u32 s) (ht:(L t).length<=9223372036854775806):∃v,Nu s t=some v/\N5 s t=some v/\u32 v:=by
 obtain⟨v,h1,h2,h3⟩:=jK (body:=fun s:Int×Int=>HQ t s.1 s.2) (body':=fun s:Int×Int=>Ib t s.1 s.2) (fun(s:Int) i=>(s,i)) (L t).length (fun _ s=>u32 s) u32
  (fun s i hi hs=>by
   obtain⟨v,h1,h2,h3⟩:=pA (xr s (IntKind.u32.wrap ((L t)[i]).toNat)) (AAA _ _);simp only [HQ,Ib];rw [Ad (by rw [BM];omega:(i:Int)<Gg t),Ag,Ag,Fv t hi,Aa,Aa,h1,h2]
   exact⟨rfl,.inl ⟨v,by rw [Aa,ad1 (by omega)],h3⟩⟩)
  (fun s hs=>by
   simp only [HQ,Ib];rw [Af (by rw [BM];omega:¬((L t).length:Int)<Gg t),Ae,Ae]
   exact⟨rfl,s,rfl,hs⟩) (s:=s) hs
 unfold Nu N5;rw [h1,h2];exact⟨v,rfl,rfl,h3⟩
theorem kT (t:ByteArray) (ht:(L t).length<=9223372036854775806):∃v,Lz t=some v/\RD t=some v/\u32 v:=by
 obtain⟨v,h1,h2,h3⟩:=o9 4294967295 t ⟨by omega,by omega⟩ ht;unfold Lz RD;rw [h1,h2];exact⟨v,rfl,rfl,h3⟩
def four (v:Int):ByteArray:=Hm [(IntKind.u8.wrap (Int.fdiv v (2^(min (24:Int).toNat IntKind.u32.bits)))),(IntKind.u8.wrap (Int.fdiv v (2^(min (16:Int).toNat IntKind.u32.bits)))),(IntKind.u8.wrap (Int.fdiv v (2^(min (8:Int).toNat IntKind.u32.bits)))),(IntKind.u8.wrap v)]
theorem RN (v:Int):(L (four v)).length=4:=by rw [four,IG];rfl
theorem tW (t:ByteArray):Pv t=Ir t:=by
 unfold Pv Ir;by_cases h:(Gg t)>20000
 ·rw [Ad h];rfl
 ·rw [Af h,Ae,Ae];rw [BM]at h;obtain⟨v,h1,h2,_⟩:=kT t (by omega);rw [h1,h2];rfl
theorem SL (t:ByteArray):(20000<(L t).length->Ir t=some (bs [],false))/\((L t).length<=20000->∃v,Lz t=some v/\Ir t=some (t++four v,true)):=by
 unfold Ir;rw [BM];refine⟨fun h=>by rw [Ad (by omega),Ag],fun h=>?_⟩;obtain⟨v,h1,h2,_⟩:=kT t (by omega);rw [Af (by omega),Ae,h1];refine⟨v,rfl,?_⟩;have:JY v=some (four v):=rfl;rw [Aa,this,Aa,GO _ _ (by rw [RN];omega),Aa]
theorem kR (t:ByteArray) (ht:(L t).length<=9223372036854775806):∃u ok,I8 t=some (u,ok)/\My t=some (u,ok)/\(ok=true->(L u).length<=20000/\∃v,Lz u=some v/\t=u++four v)/\(ok=false->u=bs []):=by
 unfold I8 My;have e4:sb (Gg t) 4=((L t).length:Int)-4:=by rw [BM,C7 (by omega) (by omega)]
 rw [e4];by_cases h4:(L t).length<4
 ·rw [Ad (by omega:((L t).length:Int)-4<0),Ad (by rw [BM];omega:Gg t<4)];exact⟨bs [],false,rfl,rfl,by simp,fun _=>rfl⟩
 ·rw [Af (by omega:¬((L t).length:Int)-4<0),Af (by rw [BM];omega:¬Gg t<4)];simp only [Ae];have en:((L t).length:Int)-4=(((L t).length-4:Nat):Int):=by omega
  rw [en,BM];have b:sub t 0 (((L t).length-4:Nat):Int)=some (t.extract 0 ((L t).length-4)):=Fp t (i:=0) (by omega) (by omega);have a:sub t (((L t).length-4:Nat):Int) ((L t).length:Int)=some (t.extract ((L t).length-4) (L t).length):=Fp t (by omega) (by omega);rw [b,a];simp only [Aa];have hu:(L (t.extract 0 ((L t).length-4))).length=(L t).length-4:=by rw [HH];simp
  obtain⟨k1,k2⟩:=SL (t.extract 0 ((L t).length-4));rw [tW];by_cases hb:20000<(L t).length-4
  ·rw [Ad (by omega:(((L t).length-4:Nat):Int)>20000),k1 (by omega)];exact⟨bs [],false,rfl,rfl,by simp,fun _=>rfl⟩
  ·obtain⟨v,h1,h2⟩:=k2 (by omega);rw [Af (by omega:¬(((L t).length-4:Nat):Int)>20000),h1,h2];have h3:JY v=some (four v):=rfl;simp only [Ae,Aa,h3,Au];have c:seq (t.extract ((L t).length-4) (L t).length) (four v)=seq (t.extract 0 ((L t).length-4)++four v) t:=by
    rw [OY,OY,D9,HH,HH,EE,AB,AB];have e1:List.take ((L t).length-((L t).length-4)) (List.drop ((L t).length-4) (L t))=(L t).drop ((L t).length-4):=Bc (by simp);have e2:List.take ((L t).length-4-0) (List.drop 0 (L t))=(L t).take ((L t).length-4):=by simp
    rw [e1,e2];constructor
    ·intro h;rw [<-h,Bv]
    ·intro h;have h':(L t).take ((L t).length-4)++L (four v)=(L t).take ((L t).length-4)++(L t).drop ((L t).length-4):=by rw [Bv];exact h
     exact(List.append_cancel_left h').symm
   rw [c]
   cases hs:seq (t.extract 0 ((L t).length-4)++four v) t with
   |false=>exact⟨bs [],false,rfl,rfl,by simp,fun _=>rfl⟩
   |true=>
    rw [JQ,AB]at hs;exact⟨_,true,rfl,rfl,fun _=>⟨by omega,v,h1,hs.symm⟩,by simp⟩
theorem Jc (n:Nat) (h:n<=1099511627776):∃s,H3 (n:Int)=some s/\L s=Ct n:=by
 unfold H3;obtain⟨m,o,h1,h2,h3,h4⟩:=Z5 (body:=fun s:Int×List Int=>MF s.1 s.2) (fun _ _=>rfl) n [] (by simpa using h);rw [h1,Aa];have:IntKind.u8.wrap (m:Int)=m:=by rw [IntKind.wrap_u8];omega
 rw [this,CH (by simp only [An,Bn]at h3⊢;omega),Aa];refine⟨_,rfl,?_⟩;rw [IG,h4];simp
def AAI (t:ByteArray) (at_:Int) (r:Int×Int×Bool):Prop:=
 (r.2.2=false/\r.1=0/\r.2.1=0)\/(r.2.2=true/\∃(a b n:Nat),at_=a/\r.2.1=b/\r.1=n/\a<b/\b<=(L t).length/\n<=1000000000/\Ct n=((L t).drop a).take (b-a))
theorem UR (l:List UInt8) (a k:Nat) (h:a+k<l.length):(l.drop a).take (k+1)=(l.drop a).take k++ [l[a+k]]:=by
 rw [Aw (by simp;omega),QR]
theorem dK (k:Nat) (h:k<5):(128:Nat)^k<=268435456:=by
 have:k<=4:=by omega
 calc 128^k<=128^4:=Nat.pow_le_pow_right (by omega) this
  _=268435456:=by decide
theorem Ut:∀ds:List UInt8,EM ds<128^ds.length
 |[]=>by simp [EM]
 |d::ds=>by
  have:=Ut ds;simp only [EM,Az,Uo];omega
theorem zH (x k:Nat) (hx:x<128) (hk:k<5):shl .i64 (x:Int) (ml 7 (k:Int))=some ((x*128^k:Nat):Int):=by
 have h7:ml 7 (k:Int)=((7*k:Nat):Int):=by rw [N1 (by omega) (by omega)];omega
 unfold shl;rw [h7,A5 (by omega)];have e:(2:Int)^(min ((7*k:Nat):Int).toNat IntKind.i64.bits)=((128^k:Nat):Int):=by
  have hb:IntKind.i64.bits=64:=rfl;have h128:(128:Nat)^k=2^(7*k):=by rw [Nat.pow_mul]
  rw [hb,B9,Nat.min_eq_left (by omega),h128]
  norm_cast
 rw [e];have hp:=dK k hk;have hm:x*128^k<=128*268435456:=YF (by omega) hp;have ec:(x:Int)*((128^k:Nat):Int)=((x*128^k:Nat):Int):=by norm_cast
 rw [ec,Nl (by omega) (by omega)]
theorem ZN (x:Nat):Int.tmod (x:Int) 128=((x %128:Nat):Int):=rfl
theorem Ku (t:ByteArray) (at_:Int) (ht:(L t).length<=4611686018427387904) (p:oI at_):∃r,HT t at_=some r/\Kj t at_=some r/\AAI t at_ r:=by
 have fails:∀(at_:Int),(at_<0\/((L t).length:Int)<=at_)->oI at_->Kj t at_=some (0,0,false):=by
  intro at_ h p;unfold Kj;rw [AF];simp only [FE];rw [Ad (by omega:(0:Int)<5),Ag];by_cases h0:at_>=0
  ·rw [Ad h0,Ag,BM,C7 (by omega) (by omega),Af (by omega)];rfl
  ·rw [Af h0];rfl
 by_cases h5:0<=at_/\at_<(L t).length
 ·obtain⟨a,rfl⟩:=Du h5.1;have ha:a<(L t).length:=by omega
  have key:∀(B1:Int×Int×Int->Option ((Int×Int×Int)⊕((Unit)⊕((Int×Int×Bool))))) (B2:Int×Int->Option ((Int×Int)⊕((Unit)⊕((Int×Int×Bool))))),(∀n sc i,B1 (n,sc,i)=Df t (a:Int) n sc i)->(∀n k,B2 (n,k)=FE t (a:Int) n k)->∀(m k:Nat),k+m=5->a+k<=(L t).length->(∀d∈((L t).drop a).take k,128<=d.toNat)->
    ∃r,(A0 B1 (((EM (((L t).drop a).take k):Nat):Int),((128^k:Nat):Int),((a+k:Nat):Int))=some r/\A0 B2 (((EM (((L t).drop a).take k):Nat):Int),(k:Int))=some r)/\(r= .inl ()\/∃q,r= .inr q/\AAI t (a:Int) q):=by
   intro B1 B2 u v m
   induction m with
   |zero=>
    intro k hk h6 hd;have f:k=5:=by omega
    subst f;refine⟨.inl (),⟨?_,?_⟩,.inl rfl⟩
    ·rw [AF];simp only [u,Df];rw [CE (by omega) (by omega),Af (by omega:¬((a+5:Nat):Int)<(a:Int)+5)];cases decide (((a+5:Nat):Int)<Gg t)<;>rfl
    ·rw [AF];simp only [v,FE];rw [Af (by omega:¬((5:Nat):Int)<5)];rfl
   |succ m ih=>
    intro k hk h6 hd;rw [AF,AF B2];simp only [u,v,Df,FE];have f:k<5:=by omega
    rw [CE (b:=5) (by omega) (by omega),Ad (by omega:((a+k:Nat):Int)<(a:Int)+5),Ad (by omega:(k:Int)<5),Ad (by omega:(a:Int)>=0),BM,C7 (by omega) (by omega)];by_cases w:a+k<(L t).length
    ·rw [Ad (by omega:((a+k:Nat):Int)<((L t).length:Int)),Ad (by omega:(a:Int)<((L t).length:Int)-k)];have eak:ad (a:Int) (k:Int)=((a+k:Nat):Int):=by rw [CE (by omega) (by omega)];omega
     simp only [Ag,Aa,Fv t w,eak];have hx:=fR ((L t)[a+k]);have g:=UR (L t) a k w;have l:(((L t).drop a).take k).length=k:=by simp;omega
     have j:=MB (((L t).drop a).take k) [(L t)[a+k]];rw [<-g,l]at j;have h7:=Ut (((L t).drop a).take k);rw [l]at h7;have hp:=dK k f;generalize a3:(L t)[a+k]=x at hx g j;simp only [EM,Nat.mul_zero,Fo]at j;have hw:IntKind.i64.wrap (x.toNat:Int)=x.toNat:=Nl (by omega) (by omega);have a1:x.toNat %128*128^k<=127*268435456:=YF (by omega) hp;have emul:ml ((x.toNat %128:Nat):Int) ((128^k:Nat):Int)=((x.toNat %128*128^k:Nat):Int):=by
      have ec:((x.toNat %128:Nat):Int)*((128^k:Nat):Int)=((x.toNat %128*128^k:Nat):Int):=by norm_cast
      rw [N1 (by rw [ec];omega) (by rw [ec];omega),ec]
     have enew:ad (((EM (((L t).drop a).take k):Nat)):Int) ((x.toNat %128*128^k:Nat):Int)=((EM (((L t).drop a).take (k+1)):Nat):Int):=by
      rw [CE (by omega) (by omega),j,pF (128^k)];omega
     rw [hw,ZN,zH _ k (by omega) f];simp only [Aa,emul,enew];by_cases o:x.toNat<128
     ·rw [Ad (by omega:(x.toNat:Int)<128),Af (by omega:¬(x.toNat:Int)>=128)];simp only [Ag,Ae];have ek1:ad ((a+k:Nat):Int) 1=((a+k+1:Nat):Int):=ad1 (by omega);have c:=Z4 (((L t).drop a).take k) x hd o;rw [<-g]at c;have h8:(((L t).drop a).take k≠ [])↔0<k:=by
       rw [<-HJ,l]
      rw [h8]at c;have y:sub t (a:Int) ((a+k+1:Nat):Int)=some (t.extract a (a+k+1)):=Fp t (by omega) (by omega);rw [ek1,y];by_cases a2:EM (((L t).drop a).take (k+1))>1000000000
      ·rw [Ad (by omega:((EM (((L t).drop a).take (k+1)):Nat):Int)>1000000000)];refine⟨.inr (0,0,false),⟨rfl,?_⟩,.inr ⟨_,rfl,.inl ⟨rfl,rfl,rfl⟩⟩⟩;cases(x.toNat:Int)==0
       ·rfl
       ·cases decide ((k:Int)>0)<;>rfl
      ·rw [Af (by omega:¬((EM (((L t).drop a).take (k+1)):Nat):Int)>1000000000)];obtain⟨s,h9,a0⟩:=Jc (EM (((L t).drop a).take (k+1))) (by omega);simp only [Ae,Aa,h9];have z:seq s (t.extract a (a+k+1))=decide (¬(x.toNat=0/\0<k)):=by
        rw [OY,a0,HH,show a+k+1-a=k+1 by omega,EE,AB,AB];exact c
       rw [z];by_cases hz:x.toNat=0/\0<k
       ·rw [Af (fun e=>e hz)];refine⟨.inr (0,0,false),⟨rfl,?_⟩,.inr ⟨_,rfl,.inl ⟨rfl,rfl,rfl⟩⟩⟩;have:((x.toNat:Int)==0)=true:=by rw [hz.1];rfl
        rw [this,Ad (by omega:(k:Int)>0)];rfl
       ·rw [Ad hz];refine⟨.inr (((EM (((L t).drop a).take (k+1)):Nat):Int),((a+k+1:Nat):Int),true),⟨rfl,?_⟩,.inr ⟨_,rfl,.inr ⟨rfl,a,a+k+1,_,rfl,rfl,rfl,by omega,by omega,by omega,?_⟩⟩⟩
        ·by_cases h4:x.toNat=0
         ·have:((x.toNat:Int)==0)=true:=by rw [h4];rfl
          rw [this,Af (by omega:¬(k:Int)>0)];rfl
         ·have:((x.toNat:Int)==0)=false:=by simpa using h4
          rw [this];rfl
        ·rw [show a+k+1-a=k+1 by omega];exact c.2 hz
     ·rw [Af (by omega:¬(x.toNat:Int)<128),Ad (by omega:(x.toNat:Int)>=128)];simp only [Ag,Ae];have e1:ml ((128^k:Nat):Int) 128=((128^(k+1):Nat):Int):=by
       rw [N1 (by omega) (by omega),Uo];norm_cast
      have e2:ad ((a+k:Nat):Int) 1=((a+(k+1):Nat):Int):=ad1 (by omega);have e3:ad (k:Int) 1=((k+1:Nat):Int):=ad1 (by omega);rw [e1,e2,e3]
      exact ih (k+1) (by omega) (by omega) (by
       rw [g];intro d hd'
       rcases Ak.1 hd' with hd'|hd'
       ·exact hd d hd'
       ·simp at hd';subst hd';omega)
    ·rw [Af (by omega:¬((a+k:Nat):Int)<((L t).length:Int)),Af (by omega:¬(a:Int)<((L t).length:Int)-k)];exact⟨.inl (),⟨rfl,rfl⟩,.inl rfl⟩
  obtain⟨r,⟨h1,h2⟩,h3⟩:=key (fun s=>Df t (a:Int) s.1 s.2.1 s.2.2) (fun s=>FE t (a:Int) s.1 s.2) (fun _ _ _=>rfl) (fun _ _=>rfl) 5 0 rfl (by omega) (by simp);unfold HT Kj;have hw:BR (a:Int) 0 (Gg t)=some true:=by
   unfold BR;rw [Ad (by omega:(a:Int)>=0),Ag,BM,Ad (by omega)]
  rw [hw];simp only [Aa,Au,Ae];simp only [Ie,EM,Nat.pow_zero,Fo]at h1 h2;rw [show((0:Nat):Int)=0 from rfl,show((1:Nat):Int)=1 from rfl]at h1;rw [show((0:Nat):Int)=0 from rfl]at h2;rw [h1,h2]
  rcases h3 with rfl|⟨q,rfl,h3⟩
  ·exact⟨_,rfl,rfl,.inl ⟨rfl,rfl,rfl⟩⟩
  ·exact⟨q,rfl,rfl,h3⟩
 ·have hf:=fails at_ (by omega) p;refine⟨(0,0,false),?_,hf,.inl ⟨rfl,rfl,rfl⟩⟩;unfold HT;by_cases h0:0<=at_/\at_<=(L t).length
  ·have hw:BR at_ 0 (Gg t)=some true:=by
    unfold BR;rw [Ad (by omega:at_>=0),Ag,BM,Ad (by omega)]
   rw [hw];simp only [Aa,Au,Ae];rw [AF];simp only [Df];rw [Af (by rw [BM];omega:¬at_<Gg t)];rfl
  ·have hw:BR at_ 0 (Gg t)=some false:=by
    unfold BR;by_cases h1:at_>=0
    ·rw [Ad h1,Ag,BM,Af (by omega)]
    ·rw [Af h1,Ae]
   rw [hw];rfl
end Go.TI
namespace Go.TI
open Go
theorem kD:RB=BR:=rfl
theorem Ec {α:Type} {l:List α} {i:Int} {x:α} (h:gi l i=some x):0<=i/\l[i.toNat]?=some x:=by
 unfold gi at h;split at h
 ·exact⟨by assumption,h⟩
 ·cases h
def eV (f:Flash):Prop:=f.Blocks.length<=1048576/\∀b∈f.Blocks,b.Leaves.length<=1048576
theorem W0 (x a b:Int):BR x a b=some (decide (a<=x)&&decide (x<=b)):=by
 unfold BR;by_cases h:x>=a
 ·rw [Ad h,Ag,C8]
 ·rw [Af h,Ae,Bool.false_and]
end Go.TI
namespace Go.TI
open Go
theorem SN (p:Page):∃v,It p=some v/\Pw p=some v/\(v=true->(p.Kind=1\/p.Kind=2)/\(1<=p.Seq/\p.Seq<=1000000000)/\(1<=p.Tx/\p.Tx<=1000000000)/\(1<=p.Count/\p.Count<=9)/\(0<=p.Part/\p.Part<p.Count)/\Gg p.Text<=90):=by
 unfold It Pw;rw [kD];simp only [W0,Aa];by_cases h1:1<=p.Seq/\p.Seq<=1000000000
 ·by_cases h2:1<=p.Tx/\p.Tx<=1000000000
  ·by_cases h3:1<=p.Count/\p.Count<=9
   ·have e:sb p.Count 1=p.Count-1:=C7 (by omega) (by omega);rw [e];by_cases h4:0<=p.Part/\p.Part<=p.Count-1
    ·by_cases h5:Gg p.Text>90
     ·refine⟨false,?_,?_,by simp⟩
      ·cases hk:(decide (1<=p.Kind)&&decide (p.Kind<=2))<;>simp [h1,h2,h3,h4,h5]
      ·simp [h1,h2,h3,h4,h5]
     ·by_cases k2:p.Kind=2
      ·exact⟨true,by simp [h1,h2,h3,h4,h5,k2],by simp [h1,h2,h3,h4,h5,k2],fun _=>⟨.inr k2,h1,h2,h3,⟨h4.1,by omega⟩,by omega⟩⟩
      ·by_cases k1:p.Kind=1
       ·exact⟨p.Count==1,by simp [h1,h2,h3,h4,h5,k1],by simp [h1,h2,h3,h4,h5,k1],fun _=>⟨.inl k1,h1,h2,h3,⟨h4.1,by omega⟩,by omega⟩⟩
       ·have hk:(decide (1<=p.Kind)&&decide (p.Kind<=2))=false:=by
         rw [C6,AY,AY];omega
        have e1:(p.Kind==1)=false:=by simpa using k1
        have e2:(p.Kind==2)=false:=by simpa using k2
        exact⟨false,by simp [hk],by simp [h1,h2,h3,h4,h5,e1,e2],by simp⟩
    ·have e4:(decide (0<=p.Part)&&decide (p.Part<=p.Count-1))=false:=by
      rw [C6,AY,AY];omega
     refine⟨false,?_,?_,by simp⟩
     ·cases hk:(decide (1<=p.Kind)&&decide (p.Kind<=2))<;>simp [h1,h2,h3,e4]
     ·simp [h1,h2,h3,e4]
   ·have e3:(decide (1<=p.Count)&&decide (p.Count<=9))=false:=by
     rw [C6,AY,AY];omega
    refine⟨false,?_,?_,by simp⟩
    ·cases hk:(decide (1<=p.Kind)&&decide (p.Kind<=2))<;>simp [h1,h2,e3]
    ·simp [h1,h2,e3]
  ·have e2:(decide (1<=p.Tx)&&decide (p.Tx<=1000000000))=false:=by
    rw [C6,AY,AY];omega
   refine⟨false,?_,?_,by simp⟩
   ·cases hk:(decide (1<=p.Kind)&&decide (p.Kind<=2))<;>simp [h1,e2]
   ·simp [h1,e2]
 ·have e1:(decide (1<=p.Seq)&&decide (p.Seq<=1000000000))=false:=by
   rw [C6,AY,AY];omega
  refine⟨false,?_,?_,by simp⟩
  ·cases hk:(decide (1<=p.Kind)&&decide (p.Kind<=2))<;>simp [e1]
  ·simp [e1]
def Zq:Page:=Page.mk 0 0 0 0 0 (bs [])
theorem GK (u:ByteArray) (a:Int) (hu:(L u).length<=20000) (ha:oI a):DW (EB.mk u a true)=some (0,EB.mk u a true):=by
 obtain⟨r,h1,_,_⟩:=Ku u a (by omega) ha;unfold DW;simp only [h1,Aa,Ag]
theorem Jb (u:ByteArray) (a:Int) (hu:(L u).length<=20000) {r:Int×Int×Bool} (h:HT u a=some r):DW (EB.mk u a false)=some (bif r.2.2 then(r.1,EB.mk u r.2.1 false)else(0,EB.mk u a true)):=by
 unfold DW;simp only [h,Aa,Ae];cases r.2.2<;>rfl
theorem O0 (l:List UInt8) {a b:Nat} (h:a<=b):l.drop a=(l.drop a).take (b-a)++l.drop b:=by
 have:=(Bv (b-a) (l.drop a)).symm;rw [C3,show a+(b-a)=b by omega]at this;exact this
theorem T9 (p:Page) (u:ByteArray) (k:UInt8) (n1 n2 n3 n4:Nat) (hp:It p=some true) (hk:p.Kind=(k.toNat:Int)) (h1:p.Seq=n1) (h2:p.Tx=n2) (h3:p.Part=n3) (h4:p.Count=n4)
  (b1:n1<=1000000000) (b2:n2<=1000000000) (b3:n3<=1000000000) (b4:n4<=1000000000) (hu:(L u).length<=20000) (e:L u=[k]++Ct n1++Ct n2++Ct n3++Ct n4++L p.Text):E6 p=Ir u:=by
 obtain⟨s1,q1,r1⟩:=Jc n1 (by omega);obtain⟨s2,q2,r2⟩:=Jc n2 (by omega);obtain⟨s3,q3,r3⟩:=Jc n3 (by omega);obtain⟨s4,q4,r4⟩:=Jc n4 (by omega);have hl:=BH List.length e;simp only [Ai,An]at hl;have hb:LE p.Kind=some (Hm [IntKind.u8.wrap p.Kind]):=rfl;have a:L (Hm [IntKind.u8.wrap p.Kind])=[k]:=by
  rw [IG,hk,IntKind.wrap_u8];have:=fR k;have e2:((k.toNat:Int) %256).toNat=k.toNat:=by omega
  simp only [Ca,pG,e2,UInt8.ofNat_toNat]
 unfold E6;rw [hp];simp only [Aa,Au,Ae,hb,h1,h2,h3,h4,q1,q2,q3,q4];rw [GO _ _ (by rw [a,r1];simp only [An];omega),Aa];rw [GO _ _ (by rw [D9,a,r1,r2];simp only [Ai,An];omega),Aa];rw [GO _ _ (by rw [D9,D9,a,r1,r2,r3];simp only [Ai,An];omega),Aa];rw [GO _ _ (by rw [D9,D9,D9,a,r1,r2,r3,r4];simp only [Ai,An];omega),Aa];rw [GO _ _ (by rw [D9,D9,D9,D9,a,r1,r2,r3,r4];simp only [Ai,An];omega),Aa];have:Hm [IntKind.u8.wrap p.Kind]++s1++s2++s3++s4++p.Text=u:=by
  apply Iz;rw [D9,D9,D9,D9,D9,a,r1,r2,r3,r4,e]
 rw [this]
 cases Ir u with
 |none=>rfl
 |some v=>rfl
theorem Jf (t:ByteArray) (ht:(L t).length<=9223372036854775806):∃p ok,E5 t=some (p,ok)/\Mz t=some (p,ok)/\(ok=false->p=Zq)/\(ok=true->It p=some true):=by
 obtain⟨u,uok,k,m,n,o⟩:=kR t ht;unfold E5 Mz;rw [k,m];simp only [Aa];have o1:oI 1:=⟨by omega,by omega⟩
 cases uok with
 |false=>
  have:=o rfl;subst this;have hz:(L (bs [])).length<=20000:=by rw [EJ];simp
  simp only [Bm,Ag,Aa,GK _ _ hz o1];exact⟨Zq,false,rfl,rfl,fun _=>rfl,by simp⟩
 |true=>
  obtain⟨f,v,hv,q⟩:=n rfl;simp only [Au,Ae,Aa];by_cases he:(L u).length<1
  ·have h:seq u (bs [])=true:=by
    rw [OY,AB,EJ];exact AC (by omega)
   rw [Ad (by rw [BM];omega:Gg u<1),h];simp only [Ag,GK _ _ f o1,Aa];exact⟨Zq,false,rfl,rfl,fun _=>rfl,by simp⟩
  ·have h:seq u (bs [])=false:=by
    rw [OY,AY,EJ];intro e;rw [e]at he;simp at he
   rw [Af (by rw [BM];omega:¬Gg u<1),h];simp only [Ae];have four_:∀(B:Int×Int×Int×Int×Int×Int->Option ((Int×Int×Int×Int×Int×Int)⊕((Int×Int×Int×Int×Int)⊕((Page×Bool))))),(∀x y a b c d,B (x,y,a,b,c,d)=DI (u,true) x y a b c d)->
     ∃(a:Int) (m1 m2 m3 m4:Int) (bad:Bool),(∃c1 c2 c3,DW (EB.mk u 1 false)=some (m1,c1)/\DW c1=some (m2,c2)/\DW c2=some (m3,c3)/\DW c3=some (m4,EB.mk u a bad))/\
      A0 B (1,0,0,0,0,0)=some (bif bad then .inr (Zq,false)else .inl (a,m1,m2,m3,m4))/\(bad=false->∃(a1 a2 a3 a4 n1 n2 n3 n4:Nat),m1=n1/\m2=n2/\m3=n3/\m4=n4/\a=a4/\1<a1/\a1<a2/\a2<a3/\a3<a4/\a4<=(L u).length/\n1<=1000000000/\n2<=1000000000/\n3<=1000000000/\n4<=1000000000/\
       Ct n1=((L u).drop 1).take (a1-1)/\Ct n2=((L u).drop a1).take (a2-a1)/\Ct n3=((L u).drop a2).take (a3-a2)/\Ct n4=((L u).drop a3).take (a4-a3)):=by
    intro B hB;obtain⟨r1,p1,q1,w1⟩:=Ku u 1 (by omega) o1;have g1:=Jb u 1 f p1;rw [AF,hB];unfold DI;rw [Ad (by omega:(0:Int)<4),Ag,q1,Aa]
    rcases w1 with⟨w1,w2,w3⟩|⟨w1,a0',a1,n1,z0,z1,z2,z3,z4,z5,z6⟩
    ·rw [w1]at g1⊢;exact⟨1,0,0,0,0,true,⟨_,_,_,g1,GK u 1 f o1,GK u 1 f o1,GK u 1 f o1⟩,rfl,by simp⟩
    have ea0:a0'=1:=by omega
    subst ea0;rw [w1]at g1⊢;have x1:oI r1.2.1:=⟨by omega,by omega⟩;simp only [Au,Ae,Ag]at g1⊢;rw [show((0:Int)==0)=true from rfl,Ag,show ad 0 1=1 from ad1 (i:=0) (by omega)];simp only;obtain⟨r2,p2,q2,y1⟩:=Ku u r1.2.1 (by omega) x1;have g2:=Jb u r1.2.1 f p2;rw [AF,hB];unfold DI;rw [Ad (by omega:(1:Int)<4),Ag,q2,Aa]
    rcases y1 with⟨y1,_,_⟩|⟨y1,b0,a2,n2,y2,y3,y4,y5,y6,y7,y8⟩
    ·rw [y1]at g2⊢;exact⟨r1.2.1,r1.1,0,0,0,true,⟨_,_,_,g1,g2,GK u _ f x1,GK u _ f x1⟩,rfl,by simp⟩
    have eb:b0=a1:=by omega
    subst eb;rw [y1]at g2⊢;have x2:oI r2.2.1:=⟨by omega,by omega⟩;simp only [Au,Ae,Ag]at g2⊢;rw [show((1:Int)==0)=false from rfl,Ae,show((1:Int)==1)=true from rfl,Ag,show ad 1 1=2 from ad1 (i:=1) (by omega)];simp only;obtain⟨r3,p3,q3,k1⟩:=Ku u r2.2.1 (by omega) x2;have g3:=Jb u r2.2.1 f p3;rw [AF,hB];unfold DI;rw [Ad (by omega:(2:Int)<4),Ag,q3,Aa]
    rcases k1 with⟨k1,_,_⟩|⟨k1,c0,a3,n3,k2,k3,k4,k5,k6,k7,k8⟩
    ·rw [k1]at g3⊢;exact⟨r2.2.1,r1.1,r2.1,0,0,true,⟨_,_,_,g1,g2,g3,GK u _ f x2⟩,rfl,by simp⟩
    have ec:c0=a2:=by omega
    subst ec;rw [k1]at g3⊢;have x3:oI r3.2.1:=⟨by omega,by omega⟩;simp only [Au,Ae,Ag]at g3⊢;rw [show((2:Int)==0)=false from rfl,Ae,show((2:Int)==1)=false from rfl,Ae,show((2:Int)==2)=true from rfl,Ag,show ad 2 1=3 from ad1 (i:=2) (by omega)];simp only;obtain⟨r4,p4,q4,l1⟩:=Ku u r3.2.1 (by omega) x3;have g4:=Jb u r3.2.1 f p4;rw [AF,hB];unfold DI;rw [Ad (by omega:(3:Int)<4),Ag,q4,Aa]
    rcases l1 with⟨l1,_,_⟩|⟨l1,d0,a4,n4,l2,l3,l4,l5,l6,l7,l8⟩
    ·rw [l1]at g4⊢;exact⟨r3.2.1,r1.1,r2.1,r3.1,0,true,⟨_,_,_,g1,g2,g3,g4⟩,rfl,by simp⟩
    have ed:d0=a3:=by omega
    subst ed;rw [l1]at g4⊢;simp only [Au,Ae,Ag]at g4⊢;rw [show((3:Int)==0)=false from rfl,Ae,show((3:Int)==1)=false from rfl,Ae,show((3:Int)==2)=false from rfl,Ae,show((3:Int)==3)=true from rfl,Ag,show ad 3 1=4 from ad1 (i:=3) (by omega)];simp only;rw [AF,hB];unfold DI;rw [Af (by omega:¬(4:Int)<4),Ae];exact⟨r4.2.1,r1.1,r2.1,r3.1,r4.1,false,⟨_,_,_,g1,g2,g3,g4⟩,rfl,fun _=>⟨b0,c0,d0,a4,n1,n2,n3,n4,z2,y4,k4,l4,l3,z3,y5,k5,l5,l6,z5,y7,k7,l7,z6,y8,k8,l8⟩⟩
   obtain⟨a,m1,m2,m3,m4,bad,⟨c1,c2,c3,f1,f2,f3,f4⟩,f5,f6⟩:=four_ (fun s:Int×Int×Int×Int×Int×Int=>DI (u,true) s.1 s.2.1 s.2.2.1 s.2.2.2.1 s.2.2.2.2.1 s.2.2.2.2.2) (fun _ _ _ _ _ _=>rfl);rw [f5];simp only [f1,f2,f3,f4,Aa]
   cases bad with
   |true=>exact⟨Zq,false,rfl,rfl,fun _=>rfl,by simp⟩
   |false=>
    obtain⟨a1,a2,a3,a4,n1,n2,n3,n4,rfl,rfl,rfl,rfl,rfl,i1,i2,i3,i4,i5,j1,j2,j3,j4,s1,s2,s3,s4⟩:=f6 rfl;simp only [Ae,Aa,Cu];have r:sx u 0=some (((L u)[0]'(by omega)).toNat:Int):=Fv u (i:=0) (by omega);have j:sub u (a4:Int) (Gg u)=some (u.extract a4 (L u).length):=by rw [BM];exact Fp u (by omega) (by omega)
    rw [r,j];simp only [Aa];have hk:=fR ((L u)[0]'(by omega));have hw:IntKind.i64.wrap (((L u)[0]'(by omega)).toNat:Int)=((L u)[0]'(by omega)).toNat:=Nl (by omega) (by omega);rw [hw];obtain⟨po,po1,po2,_⟩:=SN (Page.mk (((L u)[0]'(by omega)).toNat:Int) n1 n2 n3 n4 (u.extract a4 (L u).length));rw [po2];simp only [Aa]
    cases po with
    |false=>
     have:E6 (Page.mk (((L u)[0]'(by omega)).toNat:Int) n1 n2 n3 n4 (u.extract a4 (L u).length))=some (bs [],false):=by
      unfold E6;rw [po1];rfl
     rw [this];exact⟨Zq,false,rfl,rfl,fun _=>rfl,by simp⟩
    |true=>
     have hT:L (u.extract a4 (L u).length)=(L u).drop a4:=by
      rw [HH];exact Bc (by simp)
     have g:L u=[(L u)[0]'(by omega)]++Ct n1++Ct n2++Ct n3++Ct n4++L (u.extract a4 (L u).length):=by
      rw [hT,s1,s2,s3,s4];have h0:L u=[(L u)[0]'(by omega)]++(L u).drop 1:=by
       have:=Bt (l:=L u) (i:=0) (by omega);simpa using this
      have d1:=O0 (L u) (a:=1) (b:=a1) (by omega);have d2:=O0 (L u) (a:=a1) (b:=a2) (by omega);have d3:=O0 (L u) (a:=a2) (b:=a3) (by omega);have d4:=O0 (L u) (a:=a3) (b:=a4) (by omega);simp only [Ar];rw [<-d4,<-d3,<-d2,<-d1];exact h0
     rw [T9 _ u ((L u)[0]'(by omega)) n1 n2 n3 n4 po1 rfl rfl rfl rfl rfl j1 j2 j3 j4 f g];obtain⟨v',hv',hs'⟩:=(SL u).2 f;rw [hv]at hv'
     injection hv' with hv'
     subst hv';rw [hs',Aa];have:seq (u++four v) t=true:=by rw [JQ,AB];exact q.symm
     simp only [Au,Ae,Aa,this];exact⟨_,true,rfl,rfl,by simp,fun _=>po1⟩
end Go.TI
namespace Go.TI
open Go
def nl (l:List Block):Nat:=(l.map fun b=>b.Leaves.length).sum
def Pr (f:Flash) (y:Aq):Prop:=∃b x,gi f.Blocks y.Block=some b/\gi b.Leaves y.Leaf=some x/\(x.Is==1)=true/\E5 x.Text=some (y.Page,true)
theorem T8 (f:Flash) (hf:eV f) {i k:Nat} {b:Block} {x:Leaf} (hb:f.Blocks[i]?=some b) (hx:b.Leaves[k]?=some x):Mc f i k=some (bif x.Is==1 then(x.Text,true)else(bs [],false)):=by
 have h1:=(Aj.1 hb).1;have h2:=(Aj.1 hx).1;have h3:=hf.1;have h4:=hf.2 b (AO hb);unfold Mc;rw [C7 (by rw [Co];omega) (by rw [Co];omega),W0,Co,Ad (by omega:(0:Int)<=(i:Int)),Ad (by omega:(i:Int)<=(f.Blocks.length:Int)-1)];simp only [Aa,Lb,Au,Ae,AK,hb];rw [C7 (by rw [Co];omega) (by rw [Co];omega),W0,Co,Ad (by omega:(0:Int)<=(k:Int)),Ad (by omega:(k:Int)<=(b.Leaves.length:Int)-1)];simp only [Aa,Lb,Au,Ae,hx]
 cases h:x.Is==1 with
 |true=>
  have:(x.Is !=1)=false:=by simp [bne,h]
  simp [this]
 |false=>
  have:(x.Is !=1)=true:=by simp [bne,h]
  simp [this]
theorem QM (f:Flash) (hf:eV f) (hT:∀b∈f.Blocks,∀x∈b.Leaves,(L x.Text).length<=1048576) (hn:nl f.Blocks<=1048576):
  ∃X,A0 (fun s:List Aq×Int=>DM f s.1 s.2) ([],0)=some X/\A0 (fun s:Int×List Aq=>GM f s.1 s.2) (0,[])=some X/\X.length<=nl f.Blocks/\∀y∈X,Pr f y:=by
 refine R5 (body:=fun s:List Aq×Int=>DM f s.1 s.2) (body':=fun s:Int×List Aq=>GM f s.1 s.2) (fun s i=>(s,i)) (fun s i=>(i,s)) f.Blocks.length (fun i out=>out.length<=((f.Blocks.take i).map fun b=>b.Leaves.length).sum/\∀y∈out,Pr f y) (fun X=>X.length<=nl f.Blocks/\∀y∈X,Pr f y) ?_ ?_ (s:=[]) ⟨by simp,by simp⟩
 ·intro out i hi ⟨a,c⟩;have hb:f.Blocks[i]?=some f.Blocks[i]:=Ac hi;have hm:f.Blocks[i]∈f.Blocks:=AQ _;have h:=OT (fun b:Block=>b.Leaves.length) f.Blocks i hi;have j:=MC (fun b:Block=>b.Leaves.length) f.Blocks (i+1);unfold nl at hn;have l:=hf.1;refine .inl ?_;simp only [DM,GM,AX,Ad hi,Ag,AK,hb,Aa];obtain⟨u,q1,q2,q3⟩:=R5 (body:=fun s:List Aq×Int=>Ei f (i:Int) s.1 s.2) (body':=fun s:Int×List Aq=>Ic (i:Int) f.Blocks[i] s.1 s.2) (fun s i=>(s,i)) (fun s i=>(i,s)) f.Blocks[i].Leaves.length (fun k u=>u.length<=out.length+k/\∀y∈u,Pr f y) (fun u=>u.length<=out.length+f.Blocks[i].Leaves.length/\∀y∈u,Pr f y)
   (fun u k hk hu=>by
    have hx:f.Blocks[i].Leaves[k]?=some f.Blocks[i].Leaves[k]:=Ac hk;have e:f.Blocks[i].Leaves[k]∈f.Blocks[i].Leaves:=AQ _;have m:=hf.2 _ hm
    have g:∀y:Aq,ap 72 u [y]=some (u++ [y]):=fun y=>CH (by simp only [An];omega)
    refine .inl ?_;obtain⟨p,ok,r1,r2,r3,r4⟩:=Jf f.Blocks[i].Leaves[k].Text (by have:=hT _ hm _ e;omega);simp only [Ei,Ic,AX,Ad hk,Ag,AK,hb,hx,Aa,T8 f hf hb hx,r2,g];have n:=hu.1
    cases d:f.Blocks[i].Leaves[k].Is==1 with
    |false=>
     obtain⟨p',ok',t1,_⟩:=Jf (bs []) (by rw [EJ];simp);simp only [Ae,Aa,t1];refine⟨u,by rw [ad1 (by omega)],by cases ok<;>(simp only [Ag,Ae,Aa];rw [ad1 (by omega)]),by omega,hu.2⟩
    |true=>
     simp only [Ag,Aa,r1]
     cases ok with
     |false=>exact⟨u,by simp only [Ae];rw [ad1 (by omega)],by simp only [Ae,Aa];rw [ad1 (by omega)],by omega,hu.2⟩
     |true=>
      refine⟨u++ [Aq.mk i k p],by simp only [Ag];rw [ad1 (by omega)],by simp only [Ag,Aa];rw [ad1 (by omega)],by simp only [Ai,An];omega,fun y hy=>?_⟩
      rcases Ak.1 hy with hy|hy
      ·exact hu.2 y hy
      ·rw [A9]at hy;subst hy
       exact⟨_,_,by simp only [AK];exact hb,by simp only [AK];exact hx,d,r1⟩)
   (fun u hu=>⟨u,by simp only [Ei,AK,hb,Aa,AX,Ay,A8,Ae],by simp only [Ic,AX,Ay,A8,Ae],hu⟩) (s:=out) ⟨by omega,c⟩
  rw [q1,q2];simp only [Aa];rw [ad1 (by omega)];exact⟨u,rfl,rfl,by omega,q3.2⟩
 ·intro out ⟨a,c⟩;refine⟨out,by simp only [DM,AX,Ay,A8,Ae],by simp only [GM,AX,Ay,A8,Ae],?_,c⟩;rw [Bg]at a;exact a
theorem eN {γ:Type} {l:List γ} {i j:Int} {x y:γ} (h:gi l j=some y):∃z,gi (si l i x) j=some z:=by
 obtain⟨h1,h2⟩:=Ec h;have:=(Aj.1 h2).1;unfold gi;rw [A3 h1];exact⟨_,Ac (by simp only [si,IF];exact this)⟩
theorem lM (l:List Aq) (k:Int):HR l k=(Bk (NM BF) 0 k l).map (Sum.map (fun s=>(s.2,s.1)) id):=by
 unfold HR Bk wW pU
 cases hk:decide (k>0)with
 |false=>rfl
 |true=>
  simp only [Ag]
  cases h1:gi l (sb k 1)with
  |none=>cases h2:gi l k<;>simp
  |some x=>
   cases h2:gi l k with
   |none=>simp
   |some y=>
    simp only [Aa];have e:(decide (x.Page.Seq>y.Page.Seq))=NM BF y x:=rfl;rw [e]
    cases NM BF y x with
    |false=>rfl
    |true=>
     simp only [Ag,h1,h2,Aa];obtain⟨z,hz⟩:=eN (i:=k) (x:=x) h1;rw [hz];rfl
theorem zC {γ:Type} {l l':List γ} {i j:Int} (h:pU l i j=some l'):l'.length=l.length:=by
 unfold pU at h;obtain⟨x,_,h⟩:=As.1 h;obtain⟨y,_,h⟩:=As.1 h
 injection h with h
 subst h;simp [si]
theorem AAi {a:Int} {j:Int} {l r:List Aq} (h:A0 (fun s:Int×List Aq=>Bk (NM BF) a s.1 s.2) (j,l)=some r):r.length=l.length:=by
 refine sW (fun s:Int×List Aq=>s.2.length=l.length) (fun r=>r.length=l.length) ?_ ?_ (s:=(j,l)) rfl h
 ·rintro⟨j,m⟩ s' hm hb;simp only [Bk]at hb;obtain⟨c,_,hb⟩:=As.1 hb
  cases c with
  |false=>cases hb
  |true=>
   simp only [Ag]at hb;obtain⟨m',h1,hb⟩:=As.1 hb
   injection hb with hb
   injection hb with hb
   subst hb;exact(zC h1).trans hm
 ·rintro⟨j,m⟩ b hm hb;simp only [Bk]at hb;obtain⟨c,_,hb⟩:=As.1 hb
  cases c with
  |false=>
   simp only [Ae]at hb
   injection hb with hb
   injection hb with hb
   subst hb;exact hm
  |true=>
   simp only [Ag]at hb;obtain⟨m',h1,hb⟩:=As.1 hb;cases hb
theorem pC (f:Flash) (hf:eV f) (hT:∀b∈f.Blocks,∀x∈b.Leaves,(L x.Text).length<=1048576) (hn:nl f.Blocks<=1048576):
  ∃r,Et f=some r/\Hb f=some r/\r.length<=nl f.Blocks/\(∀y∈r,Pr f y)/\srt BF r:=by
 obtain⟨X,h1,h2,h3,h4⟩:=QM f hf hT hn;obtain⟨r,h5,h6,h7⟩:=YU BF X (by omega);obtain⟨r',h8,h9,h10⟩:=Ki BF [] X [] (by simp only [Bn];omega);have hr:r'=r:=Qw BF h9 h6 (fun k=>by rw [h7 k,<-h10 k]);subst hr;refine⟨r',?_,?_,?_,?_,h6⟩
 ·unfold Et;rw [h1,Aa];simp only [AA,Av,Bn,Kv]at h8;unfold Cy at h8;rw [show ad ((0:Nat):Int) 1=1 from rfl]at h8;have hc:A0 (fun s:List Aq×Int=>HS s.1 s.2) (X,1)=A0 (fun s:Int×List Aq=>Br (NM BF) ((0:Nat):Int) (X.length:Int) s.1 s.2) (1,X):=by
   refine jL (body:=fun s:Int×List Aq=>Br (NM BF) ((0:Nat):Int) (X.length:Int) s.1 s.2) (body':=fun s:List Aq×Int=>HS s.1 s.2) (fun s=>(s.2,s.1)) (fun s=>s.2.length=X.length) ?_ ?_ (1,X) rfl
   ·rintro⟨j,m⟩ hm;simp only at hm;simp only [HS,Br,Co,hm]
    cases decide (j<(X.length:Int))with
    |false=>rfl
    |true=>
     simp only [Ag];rw [n9 (body:=fun s:Int×List Aq=>Bk (NM BF) ((0:Nat):Int) s.1 s.2) (body':=fun s:List Aq×Int=>HR s.1 s.2) (fun s=>(s.2,s.1)) (fun s=>lM s.2 s.1) (j,m)];cases A0 (fun s:Int×List Aq=>Bk (NM BF) ((0:Nat):Int) s.1 s.2) (j,m)<;>rfl
   ·rintro⟨j,m⟩ s' hm hb;simp only [Br]at hb
    cases hc:decide (j<(X.length:Int))with
    |false=>rw [hc,Ae]at hb;cases hb
    |true=>
     rw [hc,Ag]at hb;obtain⟨m',h1,hb⟩:=As.1 hb
     injection hb with hb
     injection hb with hb
     subst hb;exact(AAi h1).trans hm
  rw [hc];exact h8
 ·unfold Hb;rw [h2,Aa,h5];rfl
 ·rw [<-h7.len];exact h3
 ·exact fun y hy=>h4 y ((h7.mem).1 hy)
end Go.TI
namespace Go.TI
open Go
section
variable {α β σ S:Type}
theorem R6 {body:S->Option (S⊕List α)} (mkS:List α->Int->S) (g:Nat->α->α) (l0:List α)
  (h1:∀(i:Nat) (l:List α) x,l.length=l0.length->l[i]?=some x->l0[i]?=some x->body (mkS l (i:Nat))=some (.inl (mkS (l.set i (g i x)) ((i+1:Nat):Int))))
  (h2:∀l:List α,l.length=l0.length->body (mkS l (l0.length:Nat))=some (.inr l)):A0 body (mkS l0 0)=some (l0.mapIdx g):=by
 obtain⟨b,h3,h4⟩:=Bs (body:=body) mkS l0.length (fun i l=>l.length=l0.length/\∀j,l[j]?=if j<i then(l0[j]?).map (g j)else l0[j]?) (fun b=>b=l0.mapIdx g)
  (fun l i hi hs=>by
   obtain⟨hl,hs⟩:=hs;have a:l0[i]?=some l0[i]:=Ac hi;have hx:l[i]?=some l0[i]:=by rw [hs,A5 (Ay _),a]
   refine .inl ⟨_,h1 i l _ hl hx a,by rw [IF,hl],fun j=>?_⟩;rw [Cv];by_cases e:i=j
   ·subst e;rw [A3 rfl,A3 (by omega),A3 (by omega),a];rfl
   ·rw [A5 e,hs];by_cases h:j<i
    ·rw [A3 h,A3 (by omega)]
    ·rw [A5 h,A5 (by omega)])
  (fun l hs=>⟨l,h2 l hs.1,by
   apply CW;intro j;rw [hs.2,J9];by_cases h:j<l0.length
   ·rw [A3 h]
   ·rw [A5 h,Dm (by omega)]
    rfl⟩) (s:=l0) ⟨rfl,fun j=>by rw [A5 (by omega)]⟩
 rw [h3,h4]
end
abbrev Ks:=List BX
def dk:BX:=BX.mk true []
def Cm (K:Ks) (i:Int):BX:=(gi K i).getD dk
def Mv (k:BX) (j:Nat):Int:=(k.Kids[j]?).getD 0
def N3 (K:Ks) (i:Nat) (leaf:Bool) (n:Int):Bool:=bif leaf then decide (0<=n)else(n== -1||(decide (0<=n/\n<=(i:Int)-1)&&(Cm K n).Leaf))
def Dn (K:Ks):Bool:=K.zipIdx.all fun z=>z.1.Kids.length==4&&z.1.Kids.all (N3 K z.2 z.1.Leaf)
def DX (K:Ks) (r:Int):Bool:=r== -1||(decide (0<=r/\r<(K.length:Int))&&!(Cm K r).Leaf)
def P6 (K:Ks) (root:Int) (s:Nat):Int:=if root<0 then 0 else if Mv (Cm K root) (s/4)<0 then 0 else Mv (Cm K (Mv (Cm K root) (s/4))) (s %4)
def Fd (K:Ks) (root:Int):List Int:=(List.range 16).map (P6 K root)
theorem Pp {K:Ks} {i:Nat} (h:i<K.length):Cm K (i:Int)=K[i]:=by
 unfold Cm;rw [AK,Ac h];rfl
theorem MO {K:Ks} {i:Int} (h0:0<=i) (h:i<(K.length:Int)):gi K i=some (Cm K i):=by
 unfold Cm;rw [Px h0 h];rfl
theorem El (x a b:Int):BR x a b=some (decide (a<=x/\x<=b)):=by
 rw [W0];congr 1;rw [EE];simp
theorem HG {K:Ks}:Dn K=true↔∀i:Nat,i<K.length->(Cm K (i:Int)).Kids.length=4/\∀n∈(Cm K (i:Int)).Kids,N3 K i (Cm K (i:Int)).Leaf n=true:=by
 unfold Dn;rw [Kw];constructor
 ·intro h i hi;have:=h (K[i],i) (by rw [List.mem_zipIdx_iff_getElem?];exact Ac hi);rw [Ao,Kw]at this;rw [Pp hi];exact⟨by simpa using this.1,this.2⟩
 ·intro h z hz;rw [List.mem_zipIdx_iff_getElem?]at hz;obtain⟨a,hz⟩:=Aj.1 hz;have:=h z.2 a;rw [Pp a,hz]at this;rw [Ao,Kw];exact⟨by simpa using this.1,this.2⟩
theorem L0 (a:Arena) (ha:a.Knots.length<=1048576):F5 a=some (Dn a.Knots):=by
 unfold F5;have h:=Wt (body:=fun s:Int=>D0 a s) a.Knots (fun i k=>k.Kids.length==4&&k.Kids.all (N3 a.Knots i k.Leaf)) (.inr false) (.inl ()) (by omega)
  (fun i k hk=>by
   have hi:=(Aj.1 hk).1;simp only [D0,AX,Ad hi,Ag,AK,hk,Aa];by_cases h4:k.Kids.length=4
   ·have e1:(ln k.Kids !=4)=false:=by simp [ln,h4]
    have e2:(k.Kids.length==4)=true:=by simp [h4]
    simp only [e1,Ae,e2,C8];have q:=Wt (body:=fun s:Int=>Dz a (i:Int) k s) k.Kids (fun _ n=>N3 a.Knots i k.Leaf n) (.inr (.inr (.inr false))) (.inl ()) (by omega)
     (fun j n hn=>by
      have hj:=(Aj.1 hn).1;simp only [Dz];rw [Ad (by omega:(j:Int)<4),Ag,AK,hn];simp only [Aa,N3]
      cases hl:k.Leaf with
      |true=>
       simp only [Ag,Au,Ae];by_cases h0:n<0
       ·rw [Ad h0,Af (by omega:¬0<=n)];rfl
       ·rw [Af h0,Ad (by omega:0<=n)];simp only [Ae,Aa,Ag];rw [ad1 (by omega)]
      |false=>
       simp only [Ae,Bm,Ag];by_cases h1:n= -1
       ·subst h1;simp only [bne_self_eq_false,Ae,Aa,BEq.rfl,Bool.true_or,Ag];rw [ad1 (by omega)]
       ·have e3:(n != -1)=true:=by simp [h1]
        have e4:(n== -1)=false:=by simp [h1]
        rw [e3,e4];simp only [Ag,Sg];rw [C7 (by omega) (by omega),El];simp only [Aa];by_cases h2:0<=n/\n<=(i:Int)-1
        ·rw [Ad h2];simp only [Au,Ae];rw [MO h2.1 (by omega)];simp only [Aa,C8]
         cases(Cm a.Knots n).Leaf with
         |true=>simp only [Au,Ae,Ag];rw [ad1 (by omega)]
         |false=>rfl
        ·rw [Af h2];rfl)
     (by simp only [Dz];rw [Af (by omega:¬((k.Kids.length:Nat):Int)<4),Ae])
    rw [q];have hz:(k.Kids.zipIdx.all fun z=>N3 a.Knots i k.Leaf z.1)=k.Kids.all (N3 a.Knots i k.Leaf):=by
     rw [show(fun z:Int×Nat=>N3 a.Knots i k.Leaf z.1)=(N3 a.Knots i k.Leaf)∘Prod.fst from rfl,<-List.all_map];congr 1;simp
    simp only [Aa];rw [hz]
    cases k.Kids.all (N3 a.Knots i k.Leaf)with
    |true=>simp only [Ag,Cu];rw [ad1 (by omega)]
    |false=>rfl
   ·have e1:(ln k.Kids !=4)=true:=by simp [ln];omega
    have e2:(k.Kids.length==4)=false:=by simp [h4]
    simp only [e1,Ag,e2,Bool.false_and,Ae])
  (by simp only [D0,AX,Ay,A8,Ae])
 rw [h];unfold Dn;simp only [Aa];cases(a.Knots.zipIdx.all fun z=>z.1.Kids.length==4&&z.1.Kids.all (N3 a.Knots z.2 z.1.Leaf))<;>rfl
theorem Lx (a:Arena) (ha:a.Knots.length<=1048576) (r:Int):Gm a r=some (DX a.Knots r):=by
 unfold Gm DX
 cases hr:(r== -1)with
 |true=>rfl
 |false=>
  simp only [Ae,Sg];rw [Co,C7 (by omega) (by omega),El];simp only [Aa];by_cases h:0<=r/\r<(a.Knots.length:Int)
  ·rw [Ad h,Ad (by omega:0<=r/\r<=(a.Knots.length:Int)-1)];simp only [Ag,C8];rw [MO h.1 h.2];rfl
  ·rw [Af h,Af (by omega:¬(0<=r/\r<=(a.Knots.length:Int)-1))];rfl
theorem CA {K:Ks} {r:Int} (h:DX K r=true):r= -1\/(0<=r/\r<(K.length:Int)/\(Cm K r).Leaf=false):=by
 unfold DX at h;simp only [CP,Cw,Ao,AB,DJ]at h
 rcases h with h|h
 ·exact .inl h
 ·exact .inr ⟨h.1.1,h.1.2,h.2⟩
theorem Ik {K:Ks} (hK:Dn K=true) {r:Int} (h0:0<=r) (h1:r<(K.length:Int)):(Cm K r).Kids.length=4/\∀j,j<4->(Cm K r).Kids[j]?=some (Mv (Cm K r) j)/\N3 K r.toNat (Cm K r).Leaf (Mv (Cm K r) j)=true:=by
 have:=HG.1 hK r.toNat (by omega);rw [show((r.toNat:Nat):Int)=r by omega]at this;refine⟨this.1,fun j hj=>?_⟩;have a:j<(Cm K r).Kids.length:=by omega
 have e:(Cm K r).Kids[j]?=some (Mv (Cm K r) j):=by unfold Mv;rw [Ac a];rfl
 exact⟨e,this.2 _ (AO e)⟩
theorem Hk {K:Ks} (hK:Dn K=true) {r:Int} (h0:0<=r) (h1:r<(K.length:Int)) (hl:(Cm K r).Leaf=false) {j:Nat} (hj:j<4):Mv (Cm K r) j= -1\/(0<=Mv (Cm K r) j/\Mv (Cm K r) j<r/\(Cm K (Mv (Cm K r) j)).Leaf=true):=by
 have:=((Ik hK h0 h1).2 j hj).2;rw [hl]at this;simp only [N3,Ae,CP,Cw,Ao,AB]at this
 rcases this with h|⟨⟨h2,h3⟩,h4⟩
 ·exact .inl h
 ·exact .inr ⟨h2,by omega,h4⟩
theorem wQ {K:Ks} (hK:Dn K=true) {r:Int} (h0:0<=r) (h1:r<(K.length:Int)) (hl:(Cm K r).Leaf=true) {j:Nat} (hj:j<4):0<=Mv (Cm K r) j:=by
 have:=((Ik hK h0 h1).2 j hj).2;rw [hl]at this;simpa [N3]using this
theorem qu4 {s:Nat} (h:s<16):qu (s:Int) 4=((s/4:Nat):Int):=by
 unfold qu;rw [show Int.tdiv (s:Int) 4=((s/4:Nat):Int) by rw [Int.tdiv_eq_ediv_of_nonneg (by omega)];omega];exact Nl (by omega) (by omega)
theorem AAD {s:Nat}:Int.tmod (s:Int) 4=((s %4:Nat):Int):=by
 rw [JA (by omega)];omega
theorem Tb (a:Arena) (hK:Dn a.Knots=true) {r:Int} (hr:DX a.Knots r=true) {s:Nat} (hs:s<16):KE a r (s:Int)=some (P6 a.Knots r s):=by
 unfold KE P6
 rcases CA hr with rfl|⟨h0,h1,hl⟩
 ·rfl
 ·rw [Af (by omega:¬r<0),A5 (by omega),Ae,MO h0 h1];simp only [Aa];rw [qu4 hs,AK,((Ik hK h0 h1).2 (s/4) (by omega)).1];simp only [Aa]
  rcases Hk hK h0 h1 hl (show s/4<4 by omega)with e|⟨e1,e2,e3⟩
  ·rw [e];rfl
  ·rw [Af (by omega),A5 (by omega),Ae,MO e1 (by omega)];simp only [Aa];rw [AAD,AK,((Ik hK e1 (by omega)).2 (s %4) (by omega)).1];rfl
theorem VS (a:Arena) (ha:a.Knots.length<=1048576) (hK:Dn a.Knots=true) {r:Int} (hr:DX a.Knots r=true) {s:Nat} (hs:s<16):MG a r (s:Int)=some (P6 a.Knots r s):=by
 unfold MG;rw [L0 a ha,Lx a ha,El,hK,hr];simp only [Aa,Au,Ae];rw [Ad (by omega:0<=(s:Int)/\(s:Int)<=15)];simp only [Au,Ae];rw [Tb a hK hr hs]
 try rfl
theorem Oa (a:Arena) (ha:a.Knots.length<=1048576) (hK:Dn a.Knots=true) {r:Int} (hr:DX a.Knots r=true):HW a r=some (Fd a.Knots r):=by
 unfold HW;obtain⟨b,h1,h2⟩:=Bs (body:=fun s:List Int×Int=>FZ a r s.1 s.2) (fun(o:List Int) i=>(o,i)) 16 (fun i o=>o=(List.range i).map (P6 a.Knots r)) (fun b=>b=Fd a.Knots r)
  (fun o i hi ho=>by
   refine .inl ⟨_,?_,rfl⟩;simp only [FZ];rw [Ad (by omega:(i:Int)<16),Ag,VS a ha hK hr hi];simp only [Aa];rw [CH (by rw [ho];simp;omega)];simp only [Aa]
   rw [ad1 (by omega),ho,FK,C0,List.map_singleton])
  (fun o ho=>⟨_,by simp only [FZ];rw [Af (by omega:¬((16:Nat):Int)<16),Ae],ho⟩) (s:=[]) rfl
 have h1':A0 (fun s:List Int×Int=>FZ a r s.1 s.2) ([],0)=some b:=h1;rw [h1',h2];rfl
end Go.TI
namespace Go.TI
open Go
theorem O6 {α:Type} {by_:Nat} {l:List α} (h:l.length*by_<=140737488355328):ap by_ [] l=some l:=by
 rw [CH (by simpa using h),AA]
def ABo (K:Ks):Prop:=K.length<=1048576/\∀k∈K,k.Kids.length<=1048576
theorem RX {K:Ks} (hK:Dn K=true) (h:K.length<=1048576):ABo K:=by
 refine⟨h,fun k hk=>?_⟩;obtain⟨i,hi,rfl⟩:=AI hk;have:=(HG.1 hK i hi).1;rw [Pp hi]at this;omega
theorem Ri (a:Arena) (h:ABo a.Knots):JV a=some a:=by
 unfold JV;have h1:=Ws (body:=fun s:Int×List BX=>HM a s.1 s.2) a.Knots (fun k=>k)
  (fun i k out hk ho=>by
   have hi:=(Aj.1 hk).1;have hm:=h.2 k (AO hk);have:=h.1;simp only [HM,AX,Ad hi,Ag,AK,hk,Aa];rw [O6 (by omega)];simp only [Aa];rw [CH (by simp;omega)];simp only [Aa]
   rw [ad1 (by omega)])
  (fun out=>by simp only [HM,AX,Ay,A8,Ae])
 rw [h1];simp only [Aa,List.map_id']
theorem Lw (s:Store) (h:ABo s.Arena.Knots) (hv:s.Vols.length<=1048576):Ea s=some s:=by
 unfold Ea;rw [O6 (by omega),Ri _ h];rfl
def OE (K:Ks) (r:Int) (s:Nat) (n:Int):List Int:=(if r<0 then [0,0,0,0]else if Mv (Cm K r) (s/4)<0 then [0,0,0,0]else(Cm K (Mv (Cm K r) (s/4))).Kids).set (s %4) n
def QY (K:Ks) (r:Int) (s:Nat):List Int:=(if r<0 then [-1,-1,-1,-1]else(Cm K r).Kids).set (s/4) (K.length:Int)
def Kd (K:Ks) (r:Int) (s:Nat) (n:Int):Ks:=K++ [BX.mk true (OE K r s n),BX.mk false (QY K r s)]
theorem mk4:mk 8 (0:Int) 4=some [0,0,0,0]:=by rw [show(4:Int)=((4:Nat):Int)from rfl,Wo (by omega) (by omega)];rfl
theorem wX {k:BX} {j:Nat} (h:j<k.Kids.length):gi k.Kids (j:Int)=some (Mv k j):=by
 unfold Mv;rw [AK,Ac h];rfl
theorem m6 (a:Arena) (ha:a.Knots.length<=1048000) (hK:Dn a.Knots=true) {r:Int} (hr:DX a.Knots r=true) {s:Nat} (hs:s<16) {n:Int} (hn:0<=n):
  Ro a r (s:Int) n=some (Arena.mk (Kd a.Knots r s n),(a.Knots.length:Int)+1):=by
 unfold Ro;rw [Ri _ (RX hK (by omega)),L0 a (by omega),Lx a (by omega),El,hK,hr];simp only [Aa,Au,Ae];rw [Ad (by omega:0<=(s:Int)/\(s:Int)<=15),Af (by omega:¬n<0)];simp only [Au,Ae,Aa];rw [mk4];simp only [Aa];have fin:∀(lf tp:List Int),lf.length=4->tp.length=4->Kd a.Knots r s n=a.Knots++ [BX.mk true (lf.set (s %4) n),BX.mk false (tp.set (s/4) (a.Knots.length:Int))]->
   ((gi lf (Int.tmod (s:Int) 4)).bind fun x4=>(gi tp (qu (s:Int) 4)).bind fun x5=>(ap 32 a.Knots [(BX.mk true (si lf (Int.tmod (s:Int) 4) n)),(BX.mk false (si tp (qu (s:Int) 4) (ln a.Knots)))]).bind fun q4=>some ((Arena.mk q4),(sb (ln q4) 1)))=some (Arena.mk (Kd a.Knots r s n),(a.Knots.length:Int)+1):=by
  intro lf tp h1 h2 h3;rw [qu4 hs,AAD,AK,AK,Ac (by omega),Ac (by omega)];simp only [Aa];rw [CH (by simp;omega),Hu,Hu,Co,<-h3];simp only [Aa];rw [Co,h3,Ai,C7 (by simp;omega) (by simp;omega)];simp only [Az,Bn];congr 2;omega
 rcases CA hr with rfl|⟨h0,h1,hl⟩
 ·rw [Af (by omega:¬(-1:Int)>=0)];simp only [Ae,Aa];exact fin _ _ rfl rfl rfl
 ·rw [Ad (by omega:r>=0),Ag,MO h0 h1];have h4:=(Ik hK h0 h1).1;simp only [Aa];rw [O6 (by omega)];simp only [Aa];rw [qu4 hs,wX (by omega:s/4<(Cm a.Knots r).Kids.length)];simp only [Aa];rw [<-qu4 hs]
  rcases Hk hK h0 h1 hl (show s/4<4 by omega)with e|⟨e1,e2,e3⟩
  ·rw [Af (by omega:¬Mv (Cm a.Knots r) (s/4)>=0)];simp only [Ae,Aa];exact fin _ _ rfl h4 (by unfold Kd OE QY;simp only [A5 (show¬r<0 by omega),A3 (show Mv (Cm a.Knots r) (s/4)<0 by omega)])
  ·rw [Ad (by omega:Mv (Cm a.Knots r) (s/4)>=0),Ag,MO e1 (by omega)];have h5:=(Ik hK e1 (by omega)).1;simp only [Aa];rw [O6 (by omega)];simp only [Aa];exact fin _ _ h5 h4 (by unfold Kd OE QY;simp only [A5 (show¬r<0 by omega),A5 (show¬Mv (Cm a.Knots r) (s/4)<0 by omega)])
def Ou (K:Ks) (r:Int) (i:Nat):Bool:=decide (0<=r)&&(decide (r=(i:Int))||(Cm K r).Kids.any fun n=>decide (n=(i:Int)))
theorem dR {α:Type} (n:Nat) (f:Nat->α) (g:Nat->α->α):((List.range n).map f).mapIdx g=(List.range n).map fun i=>g i (f i):=by
 apply CW;intro j;rw [J9,Bh,Bh];by_cases h:j<n
 ·rw [OM h];rfl
 ·rw [Dm (by simpa using h)];rfl
theorem PN {α:Type} (n:Nat) (f:Nat->α) (i:Nat) (x:α) (g:Nat->α) (h:∀j,j<n->g j=if j=i then x else f j):((List.range n).map f).set i x=(List.range n).map g:=by
 apply CW;intro j;rw [Cv,Bh,Bh];by_cases hj:j<n
 ·rw [OM hj];simp only [B4,h j hj,Bw,Ck];by_cases e:i=j
  ·rw [A3 e,A3 (by omega),A3 e.symm]
  ·rw [A5 e,A5 (EF e)]
 ·rw [Dm (by simpa using hj)];simp only [Option.map_none,Bw,Ck];split
  ·rw [A5 (by omega)]
  ·rfl
theorem Kc {α:Type} {n:Nat} {f:Nat->α} {i:Nat} (h:i<n):((List.range n).map f)[i]?=some (f i):=by
 rw [Bh,OM h];rfl
theorem fU {l:List Int} {m:Nat} {x:Int} (h:l[m]?=some x) (p:Int->Bool):(l.take (m+1)).any p=((l.take m).any p||p x):=by
 rw [Ep,h,List.any_append];simp
theorem gJ (a:Arena) (ha:a.Knots.length<=1048576) (hK:Dn a.Knots=true) {r:Int} (hr:DX a.Knots r=true):OZ a r=some ((List.range a.Knots.length).map (Ou a.Knots r)):=by
 unfold OZ;rw [Co,Wo (by omega) (by omega)];simp only [Aa]
 rcases CA hr with rfl|⟨h0,h1,hl⟩
 ·simp only [show decide ((-1:Int)<0)=true from rfl,Ag];congr 1;rw [show(Ou a.Knots (-1))=fun _=>false from rfl,Ln,Ck]
 ·rw [Af (by omega:¬r<0),Ae];obtain⟨m,rfl⟩:∃m:Nat,r=(m:Int):=⟨r.toNat,by omega⟩;rw [AK,List.getElem?_replicate,A3 (by omega)];simp only [Aa];rw [Hu];obtain⟨h4,hk⟩:=Ik hK h0 h1;obtain⟨b,q1,q2⟩:=Bs (body:=fun s:List Bool×Int=>Hz a (m:Int) s.1 s.2) (fun(o:List Bool) i=>(o,i)) 4
   (fun i o=>o=(List.range a.Knots.length).map fun(j:Nat)=>decide ((m:Int)=(j:Int))||((Cm a.Knots (m:Int)).Kids.take i).any fun n=>decide (n=(j:Int)))
   (fun b=>b=(List.range a.Knots.length).map (Ou a.Knots (m:Int)))
   (fun o i hi ho=>by
    obtain⟨e,_⟩:=hk i hi;simp only [Hz];rw [Ad (by omega:(i:Int)<4),Ag,MO h0 h1];simp only [Aa];rw [AK,e];simp only [Aa]
    rcases Hk hK h0 h1 hl hi with e1|⟨e1,e2,e3⟩
    ·rw [e1,Af (by omega:¬(-1:Int)>=0),Ae,ad1 (by omega)];refine .inl ⟨o,rfl,?_⟩;rw [ho];apply CO;intro j hj;rw [fU e,e1,Af (by omega:¬(-1:Int)=(j:Int)),NO]
    ·obtain⟨c,hc⟩:∃c:Nat,Mv (Cm a.Knots (m:Int)) i=(c:Int):=⟨(Mv (Cm a.Knots (m:Int)) i).toNat,by omega⟩;rw [hc,Ad (by omega:(c:Int)>=0),Ag]
     try simp only [Aa]
     rw [ho,AK,Kc (by omega)];simp only [Aa];rw [Hu,ad1 (by omega)];refine .inl ⟨_,rfl,?_⟩;apply PN;intro j hj;rw [fU e,hc];by_cases d:j=c
     ·subst d;simp
     ·rw [A5 d,Af (by omega:¬(c:Int)=(j:Int)),NO])
   (fun o ho=>⟨_,by simp only [Hz];rw [Af (by omega:¬((4:Nat):Int)<4),Ae],by
    rw [ho];apply CO;intro j hj;rw [Bc (by omega)];unfold Ou
    rw [Ad h0,C8]⟩) (s:=(List.replicate a.Knots.length false).set m true) (by
    rw [<-Ck (n:=a.Knots.length),<-Ln,Ck];apply PN;intro j hj;simp only [Ie,List.any_nil,NO];by_cases e:j=m
    ·subst e;simp
    ·rw [A5 e,Af (by omega)])
  have q1':A0 (fun s:List Bool×Int=>Hz a (m:Int) s.1 s.2) ((List.replicate a.Knots.length false).set m true,0)=some b:=q1;rw [q1',q2];rfl
end Go.TI
namespace Go.TI
open Go
def DK (K:Ks) (R:List Int) (i:Nat):Bool:=R.any fun r=>Ou K r i
def Zm (K:Ks) (R:List Int) (i:Nat):Nat:=((List.range i).filter (DK K R)).length
def PM (K:Ks) (R:List Int) (n:Int):Int:=if 0<=n then(Zm K R n.toNat:Int)else n
def lJ (K:Ks) (R:List Int) (i:Nat):BX:=BX.mk (Cm K (i:Int)).Leaf (bif(Cm K (i:Int)).Leaf then(Cm K (i:Int)).Kids else(Cm K (i:Int)).Kids.map (PM K R))
def TB (K:Ks) (R:List Int):Ks:=((List.range K.length).filter (DK K R)).map (lJ K R)
theorem Ol {α:Type} (l:List α) (f:α->α):l.mapIdx (fun _ x=>f x)=l.map f:=by
 apply CW;intro j;rw [J9,Bh]
theorem PB {K:Ks} {R:List Int} {r:Int} (hr:r∈R) (h0:0<=r):DK K R r.toNat=true:=by
 unfold DK;rw [D8];exact⟨r,hr,by unfold Ou;rw [Ad h0,Ad (by omega:r=(r.toNat:Int))];rfl⟩
theorem fQ {K:Ks} {R:List Int} (hK:Dn K=true) (hR:∀r∈R,DX K r=true) {i:Nat} (hu:DK K R i=true) (hl:(Cm K (i:Int)).Leaf=false):(i:Int)∈R:=by
 unfold DK at hu;rw [D8]at hu;obtain⟨r,hr,h⟩:=hu;unfold Ou at h;simp only [Ao,CP,AB,D8]at h;obtain⟨h0,h⟩:=h
 rcases h with h|⟨n,hn,h⟩
 ·rw [<-h];exact hr
 ·rcases CA (hR r hr)with e|⟨_,h1,a⟩
  ·omega
  ·obtain⟨h4,hk⟩:=Ik hK h0 h1;obtain⟨j,hj,b⟩:=AI hn;have e:=(hk j (by omega)).1;rw [Ac hj,b]at e
   injection e with e
   rcases Hk hK h0 h1 a (show j<4 by omega)with k1|⟨_,_,k3⟩
   ·omega
   ·rw [<-e,h,hl]at k3;cases k3
theorem UM {K:Ks} {R:List Int} {r n:Int} (hr:r∈R) (h0:0<=r) (hn:n∈(Cm K r).Kids) (h1:0<=n):DK K R n.toNat=true:=by
 unfold DK;rw [D8];refine⟨r,hr,?_⟩;unfold Ou;rw [Ad h0,C8,CP,D8];exact .inr ⟨n,hn,by rw [AB];omega⟩
theorem ABV {K:Ks} {R:List Int} (i:Nat):Zm K R i<=i:=by
 have:=BY (DK K R) (List.range i);rw [Ck]at this;exact this
theorem XF (a:Arena) (ha:a.Knots.length<=1048576) (R:List Int) (hc:R.length<=1048576) (hR:∀r∈R,DX a.Knots r=true):A0 (fun s:Bool×Int=>E4 a R s.1 s.2) (true,0)=some true:=by
 obtain⟨b,h1,h2⟩:=Bs (body:=fun s:Bool×Int=>E4 a R s.1 s.2) (fun(o:Bool) i=>(o,i)) R.length (fun _ o=>o=true) (fun b=>b=true)
  (fun o i hi ho=>by
   have hx:=Ac hi;simp only [E4,AX,Ad hi,Ag,Aa,ho,AK,hx];rw [Lx a ha,hR _ (AQ hi)];simp only [Aa];rw [ad1 (by omega)]
   exact .inl ⟨true,rfl,rfl⟩)
  (fun o ho=>⟨o,by simp only [E4,AX,Ay,A8,Ae,Aa],ho⟩) (s:=true) rfl
 rw [h2]at h1;exact h1
theorem aT (a:Arena) (ha:a.Knots.length<=1048576) (hK:Dn a.Knots=true) (R:List Int) (hc:R.length<=1048576) (hR:∀r∈R,DX a.Knots r=true):
  A0 (fun s:List Bool×Int=>E0 a R s.1 s.2) (List.replicate a.Knots.length false,0)=some ((List.range a.Knots.length).map (DK a.Knots R)):=by
 obtain⟨b,h1,h2⟩:=Bs (body:=fun s:List Bool×Int=>E0 a R s.1 s.2) (fun(o:List Bool) i=>(o,i)) R.length (fun i o=>o=(List.range a.Knots.length).map fun(j:Nat)=>(R.take i).any fun r=>Ou a.Knots r j) (fun b=>b=(List.range a.Knots.length).map (DK a.Knots R))
  (fun o i hi ho=>by
   have hx:=Ac hi;simp only [E0,AX,Ad hi,Ag,Aa,AK,hx];rw [gJ a ha hK (hR _ (AQ hi))];simp only [Aa];have d:o.length=a.Knots.length:=by rw [ho];simp
   have q:=R6 (body:=fun s:List Bool×Int=>Fy ((List.range a.Knots.length).map (Ou a.Knots R[i])) s.1 s.2) (fun l i=>(l,i)) (fun k x=>x||Ou a.Knots R[i] k) o
    (fun k l x hl c e=>by
     have hk:k<a.Knots.length:=by have:=(Aj.1 c).1;omega
     simp only [Fy,AX];rw [Ad (by simpa using hk),Ag,AK,c];simp only [Aa]
     cases x with
     |true=>simp only [Ag,Bool.true_or];rw [Hu,ad1 (by omega)]
     |false=>
      simp only [Ae,Sg];rw [AK,Kc hk];simp only [Aa]
      rw [Hu,ad1 (by omega)])
    (fun l hl=>by simp only [Fy,AX];rw [d,Af (by simp),Ae])
   rw [q];simp only [Aa];rw [ad1 (by omega),ho,dR];refine .inl ⟨_,rfl,?_⟩;apply CO;intro j hj;rw [Ep,hx,List.any_append]
   simp)
  (fun o ho=>⟨o,by simp only [E0,AX,Ay,A8,Ae],by rw [ho,Bc (by omega)];rfl⟩) (s:=List.replicate a.Knots.length false) (by
   simp only [Ie,List.any_nil]
   rw [Ln,Ck])
 rw [<-h2];exact h1
def nR (K:Ks) (R:List Int) (i:Nat):List Int:=(List.range K.length).map fun(j:Nat)=>if j<i/\DK K R j=true then(Zm K R j:Int)else 0
theorem XG (a:Arena) (ha:a.Knots.length<=1048576) (hK:Dn a.Knots=true) (R:List Int) (hR:∀r∈R,DX a.Knots r=true):
  A0 (fun s:List Int×Int×List BX=>Ez a ((List.range a.Knots.length).map (DK a.Knots R)) s.1 s.2.1 s.2.2) (List.replicate a.Knots.length 0,0,[])=some (nR a.Knots R a.Knots.length,TB a.Knots R):=by
 obtain⟨b,h1,h2⟩:=Bs (body:=fun s:List Int×Int×List BX=>Ez a ((List.range a.Knots.length).map (DK a.Knots R)) s.1 s.2.1 s.2.2) (fun(o:List Int×List BX) i=>(o.1,i,o.2)) a.Knots.length
  (fun i o=>o=(nR a.Knots R i,((List.range i).filter (DK a.Knots R)).map (lJ a.Knots R))) (fun b=>b=(nR a.Knots R a.Knots.length,TB a.Knots R))
  (fun o i hi ho=>by
   subst ho;simp only [Ez,AX,Ad hi,Ag];rw [AK,Kc hi];simp only [Aa]
   cases hu:DK a.Knots R i with
   |false=>
    simp only [Bm,Ag];rw [ad1 (by omega)];refine .inl ⟨(nR a.Knots R i,((List.range i).filter (DK a.Knots R)).map (lJ a.Knots R)),rfl,?_⟩;congr 1
    ·unfold nR;apply CO;intro j hj;by_cases e:j=i
     ·subst e;rw [A5 (by omega),A5 (by rw [hu];simp)]
     ·by_cases h:j<i/\DK a.Knots R j=true
      ·rw [A3 h,A3 ⟨by omega,h.2⟩]
      ·rw [A5 h,A5 (fun h3=>h ⟨by omega,h3.2⟩)]
    ·rw [FK,AW,BC (by rw [hu];simp)];simp
   |true=>
    simp only [Au,Ae];have h0:(0:Int)<=(i:Int):=by omega
    have d:(i:Int)<(a.Knots.length:Int):=by omega
    rw [MO h0 d];obtain⟨h4,hk⟩:=Ik hK h0 d;simp only [Aa];rw [O6 (by omega)];simp only [Aa];have inner:A0 (fun s:Int×List Int=>Ey (nR a.Knots R i) ((Cm a.Knots (i:Int)).Leaf,(Cm a.Knots (i:Int)).Kids) s.1 s.2) (0,(Cm a.Knots (i:Int)).Kids)=some (lJ a.Knots R i).Kids:=by
     unfold lJ
     cases hl:(Cm a.Knots (i:Int)).Leaf with
     |true=>rw [AF];rfl
     |false=>
      have q:=R6 (body:=fun s:Int×List Int=>Ey (nR a.Knots R i) (false,(Cm a.Knots (i:Int)).Kids) s.1 s.2) (fun l k=>(k,l)) (fun _ x=>PM a.Knots R x) (Cm a.Knots (i:Int)).Kids
       (fun k l x t f g=>by
        have m:k<4:=by have:=(Aj.1 g).1;omega
        have ex:x=Mv (Cm a.Knots (i:Int)) k:=by have:=(hk k m).1;rw [g]at this;injection this
        simp only [Ey];rw [Ad (by omega:(k:Int)<4)];simp only [Ag,Aa,Bm];rw [AK,f];simp only [Aa]
        rcases Hk hK h0 d hl m with e|⟨e1,e2,e3⟩
        ·rw [Af (by omega:¬x>=0),Ae,ad1 (by omega)];have:PM a.Knots R x=x:=by unfold PM;rw [A5 (by omega)]
         rw [this,show l.set k x=l from by
          apply CW;intro j;rw [Cv];split
          ·rename_i e5;subst e5;rw [A3 (Aj.1 f).1,f]
          ·rfl]
        ·rw [Ad (by omega:x>=0),Ag];obtain⟨c,hc⟩:∃c:Nat,x=(c:Int):=⟨x.toNat,by omega⟩;have u:x∈(Cm a.Knots (i:Int)).Kids:=AO g;have n:=UM (fQ hK hR hu hl) h0 u (by omega);rw [hc]at n;rw [hc,AK];unfold nR;rw [Kc (by omega)];simp only [Aa];rw [A3 ⟨by omega,n⟩,Hu,ad1 (by omega)];unfold PM;rw [A3 (by omega)]
         rfl)
       (fun l t=>by
        simp only [Ey];rw [h4,Af (by omega:¬((4:Nat):Int)<4)]
        rfl)
      rw [Ol]at q;exact q
    rw [inner];simp only [Aa];have v:gi (nR a.Knots R i) (i:Int)=some 0:=by
     unfold nR;rw [AK,Kc hi,A5 (by omega)]
    rw [v];simp only [Aa];have w:=ABV (K:=a.Knots) (R:=R) i;have p:(((List.range i).filter (DK a.Knots R)).map (lJ a.Knots R)).length=Zm a.Knots R i:=by rw [Bw];rfl
    rw [CH (by rw [p];simp;omega)];simp only [Aa];rw [ad1 (by omega),Co,p,Hu];refine .inl ⟨(_,_),rfl,?_⟩;congr 1
    ·unfold nR;apply PN;intro j hj;by_cases e:j=i
     ·subst e;rw [A3 ⟨by omega,hu⟩,A3 rfl]
     ·rw [A5 e];by_cases h:j<i/\DK a.Knots R j=true
      ·rw [A3 h,A3 ⟨by omega,h.2⟩]
      ·rw [A5 h,A5 (fun h3=>h ⟨by omega,h3.2⟩)]
    ·rw [FK,AW,BK hu,DU,C0]
     rfl)
  (fun o ho=>⟨o,by simp only [Ez,AX,Ay,A8,Ae],ho⟩) (s:=(List.replicate a.Knots.length 0,[])) (by
   unfold nR;simp only [Nat.not_lt_zero,false_and,J8];rw [Ln,Ck]
   rfl)
 rw [<-h2];exact h1
theorem mT (a:Arena) (ha:a.Knots.length<=1048576) (R:List Int) (hc:R.length<=1048576) (hR:∀r∈R,DX a.Knots r=true):
  A0 (fun s:List Int×Int=>Ex (nR a.Knots R a.Knots.length,TB a.Knots R) s.1 s.2) (R,0)=some (R.map (PM a.Knots R)):=by
 have q:=R6 (body:=fun s:List Int×Int=>Ex (nR a.Knots R a.Knots.length,TB a.Knots R) s.1 s.2) (fun l k=>(l,k)) (fun _ x=>PM a.Knots R x) R
  (fun k l x f b d=>by
   have hk:=(Aj.1 d).1;have g:=(Aj.1 b).1;simp only [Ex,AX,Ad g,Ag,AK,b,Aa]
   rcases CA (hR x (AO d))with e|⟨e1,e2,e3⟩
   ·rw [Af (by omega:¬x>=0),Ae,ad1 (by omega)];have:PM a.Knots R x=x:=by unfold PM;rw [A5 (by omega)]
    rw [this,show l.set k x=l from by
     apply CW;intro j;rw [Cv];split
     ·rename_i e5;subst e5
      first
       |rw [A3 g,b]
       |exact b.symm
     ·rfl]
   ·rw [Ad (by omega:x>=0),Ag];obtain⟨c,h⟩:∃c:Nat,x=(c:Int):=⟨x.toNat,by omega⟩;have i:=PB (K:=a.Knots) (AO d) e1;rw [h]at i;rw [h,AK];unfold nR;rw [Kc (by omega)];simp only [Aa];rw [A3 ⟨by omega,i⟩,Hu,ad1 (by omega)];unfold PM;rw [A3 (by omega)]
    rfl)
  (fun l f=>by simp only [Ex,Co,f];rw [Af (by omega),Ae])
 rw [Ol]at q;exact q
theorem V3 (a:Arena) (ha:a.Knots.length<=1048576) (hK:Dn a.Knots=true) (R:List Int) (hc:R.length<=1048576) (hR:∀r∈R,DX a.Knots r=true):
  HP a R=some (Arena.mk (TB a.Knots R),R.map (PM a.Knots R)):=by
 unfold HP;rw [O6 (by omega),L0 a ha,hK];simp only [Aa];rw [XF a ha R hc hR];simp only [Aa,Au,Ae];rw [Co,Wo (by omega) (by omega)];simp only [Aa];rw [aT a ha hK R hc hR];simp only [Aa];rw [Wo (by omega) (by omega)];simp only [Aa];rw [XG a ha hK R hR];simp only [Aa];rw [mT a ha R hc hR];rfl
end Go.TI
namespace Go.TI
open Go
theorem WB (p:Nat->Bool) {i:Nat} (hp:p i=true):∀{n:Nat},i<n->((List.range n).filter p)[((List.range i).filter p).length]?=some i
 |0,h=>by omega
 |n+1,h=>by
  rw [FK,AW];by_cases e:i=n
  ·subst e;rw [AU (A6 _),P8,BK hp];rfl
  ·have h2:=WB p hp (show i<n by omega);have h3:=(Aj.1 h2).1;rw [AS h3,h2]
theorem kC (p:Nat->Bool) {i:Nat} (hp:p i=true) {n:Nat} (h:i<n):((List.range i).filter p).length<((List.range n).filter p).length:=(Aj.1 (WB p hp h)).1
theorem kA (p:Nat->Bool):∀{n j:Nat},j<((List.range n).filter p).length->∃i,i<n/\p i=true/\((List.range i).filter p).length=j
 |0,j,h=>by simp at h
 |n+1,j,h=>by
  rw [FK,AW,Ai]at h;by_cases e:j<((List.range n).filter p).length
  ·obtain⟨i,h1,h2,h3⟩:=kA p e;exact⟨i,by omega,h2,h3⟩
  ·by_cases hp:p n=true
   ·rw [BK hp]at h;simp at h;exact⟨n,by omega,hp,by omega⟩
   ·rw [BC hp]at h;simp at h;omega
section
variable {K:Ks} {R:List Int}
theorem ZO:(TB K R).length=Zm K R K.length:=by unfold TB Zm;rw [Bw]
theorem PD {i:Nat} (hu:DK K R i=true) (hi:i<K.length):Cm (TB K R) (Zm K R i:Nat)=lJ K R i/\Zm K R i<(TB K R).length:=by
 have h:=kC (DK K R) hu hi;have h2:Zm K R i<(TB K R).length:=by rw [ZO];exact h
 refine⟨?_,h2⟩;unfold Cm;rw [AK];unfold TB;rw [Bh];have:=WB (DK K R) hu hi;rw [show Zm K R i=((List.range i).filter (DK K R)).length from rfl,this];rfl
theorem uR {j:Nat} (hj:j<(TB K R).length):∃i,i<K.length/\DK K R i=true/\Zm K R i=j:=by
 rw [ZO]at hj;exact kA (DK K R) hj
theorem ABU {i j:Nat} (hu:DK K R i=true) (h:i<j):Zm K R i<Zm K R j:=kC _ hu h
theorem UT (i:Nat):(lJ K R i).Leaf=(Cm K (i:Int)).Leaf:=rfl
theorem pW (hK:Dn K=true) {i:Nat} (hi:i<K.length):(lJ K R i).Kids.length=4:=by
 have:=(HG.1 hK i hi).1;unfold lJ
 cases(Cm K (i:Int)).Leaf with
 |true=>exact this
 |false=>simp only [Ae,Bw];exact this
theorem pX {i j:Nat} (hl:(Cm K (i:Int)).Leaf=false) (hj:j<(Cm K (i:Int)).Kids.length):Mv (lJ K R i) j=PM K R (Mv (Cm K (i:Int)) j):=by
 unfold Mv lJ;rw [hl];simp only [Ae];rw [Bh,Ac hj];rfl
theorem Qj {i:Nat} (hl:(Cm K (i:Int)).Leaf=true):(lJ K R i).Kids=(Cm K (i:Int)).Kids:=by
 unfold lJ;rw [hl];rfl
theorem PK {n:Int} (h:n<0):PM K R n=n:=by unfold PM;rw [A5 (by omega)]
theorem PL (n:Nat):PM K R (n:Int)=(Zm K R n:Int):=by unfold PM;rw [A3 (by omega)];rfl
theorem AA1 (hK:Dn K=true) (hR:∀r∈R,DX K r=true):Dn (TB K R)=true:=by
 rw [HG];intro j hj;obtain⟨i,hi,hu,rfl⟩:=uR hj;rw [(PD hu hi).1];refine⟨pW hK hi,fun n hn=>?_⟩;have h0:(0:Int)<=(i:Int):=by omega
 have h1:(i:Int)<(K.length:Int):=by omega
 obtain⟨h4,hk⟩:=Ik hK h0 h1;rw [UT]
 cases hl:(Cm K (i:Int)).Leaf with
 |true=>
  rw [Qj hl]at hn;have:=(HG.1 hK i hi).2 n hn;rw [hl]at this;simpa [N3]using this
 |false=>
  obtain⟨m,hm,b⟩:=AI hn;rw [pW hK hi]at hm;have e:n=PM K R (Mv (Cm K (i:Int)) m):=by
   rw [<-pX hl (by omega),<-b];unfold Mv;rw [Ac];rfl
  rcases Hk hK h0 h1 hl hm with k1|⟨k1,k2,k3⟩
  ·rw [k1,PK (by omega)]at e;subst e;rfl
  ·obtain⟨c,hc⟩:∃c:Nat,Mv (Cm K (i:Int)) m=(c:Int):=⟨_,(B7 k1).symm⟩;rw [hc]at e k2 k3;rw [PL]at e;have a:=UM (fQ hK hR hu hl) h0 (AO (hk m hm).1) (by omega);rw [hc]at a;have d:c<K.length:=by omega
   have f:Zm K R c<Zm K R i:=ABU (by simpa using a) (by omega);subst e;simp only [N3,Ae,CP,Cw,Ao,AB];refine .inr ⟨by omega,?_⟩;rw [(PD (by simpa using a) d).1,UT];exact k3
theorem vI (hR:∀r∈R,DX K r=true) {r:Int} (hr:r∈R):DX (TB K R) (PM K R r)=true:=by
 rcases CA (hR r hr)with e|⟨h0,h1,hl⟩
 ·rw [e,PK (by omega)];rfl
 ·obtain⟨c,rfl⟩:∃c:Nat,r=(c:Int):=⟨_,(B7 h0).symm⟩;have a:=PB (K:=K) hr h0;rw [B9]at a;obtain⟨g1,g2⟩:=PD a (by omega);rw [PL];unfold DX;rw [Ad (by omega),g1,UT,hl];simp
theorem qD (hK:Dn K=true) (hR:∀r∈R,DX K r=true) {r:Int} (hr:r∈R):Fd (TB K R) (PM K R r)=Fd K r:=by
 unfold Fd;apply CO;intro s hs;rw [G0]at hs;unfold P6
 rcases CA (hR r hr)with e|⟨h0,h1,hl⟩
 ·rw [e,PK (by omega),A3 (by omega),A3 (by omega)]
 ·obtain⟨c,rfl⟩:∃c:Nat,r=(c:Int):=⟨_,(B7 h0).symm⟩;have a:=PB (K:=K) hr h0;rw [B9]at a;obtain⟨g1,g2⟩:=PD a (by omega);obtain⟨h4,hk⟩:=Ik hK h0 h1;rw [PL,g1,pX hl (by omega)];simp only [A5 (show¬((Zm K R c:Nat):Int)<0 by omega),A5 (show¬((c:Nat):Int)<0 by omega)]
  rcases Hk hK h0 h1 hl (show s/4<4 by omega)with k1|⟨k1,k2,k3⟩
  ·rw [k1,PK (by omega)];rfl
  ·obtain⟨d,hd⟩:∃d:Nat,Mv (Cm K (c:Int)) (s/4)=(d:Int):=⟨_,(B7 k1).symm⟩;have b:=UM hr h0 (AO (hk (s/4) (by omega)).1) k1;rw [hd]at b k2 k3;rw [hd,PL];simp only [A5 (show¬((Zm K R d:Nat):Int)<0 by omega),A5 (show¬((d:Nat):Int)<0 by omega)];rw [(PD (by simpa using b) (by omega)).1];unfold Mv;rw [Qj k3]
theorem zD (hK:Dn K=true) (hR:∀r∈R,DX K r=true) {j:Nat} (hj:j<(TB K R).length):DK (TB K R) (R.map (PM K R)) j=true:=by
 obtain⟨i,hi,hu,rfl⟩:=uR hj;have hu':=hu;unfold DK at hu';rw [D8]at hu';obtain⟨r,hr,h⟩:=hu';unfold Ou at h;simp only [Ao,CP,AB,D8]at h;obtain⟨h0,h⟩:=h;unfold DK;rw [D8];refine⟨PM K R r,AP.2 ⟨r,hr,rfl⟩,?_⟩;obtain⟨c,rfl⟩:∃c:Nat,r=(c:Int):=⟨_,(B7 h0).symm⟩;rw [PL];unfold Ou;simp only [Ao,CP,AB,D8];refine⟨by omega,?_⟩
 rcases h with h|⟨n,hn,h⟩
 ·have:c=i:=by omega
  subst this;exact .inl rfl
 ·right
  rcases CA (hR _ hr)with e|⟨_,h1,hl⟩
  ·omega
  ·have a:=PB (K:=K) hr h0;rw [B9]at a;rw [(PD a (by omega)).1];refine⟨(Zm K R i:Int),?_,rfl⟩;unfold lJ;rw [hl];simp only [Ae,AP];exact⟨n,hn,by rw [h,PL]⟩
theorem Mu {X:Ks} {i:Int} (h0:0<=i) (h:i<(K.length:Int)):Cm (K++X) i=Cm K i:=by
 obtain⟨c,rfl⟩:∃c:Nat,i=(c:Int):=⟨_,(B7 h0).symm⟩;unfold Cm;rw [AK,AK,AS (by omega)]
theorem vF {X:Ks} {r:Int} (h:DX K r=true):DX (K++X) r=true:=by
 rcases CA h with e|⟨h0,h1,hl⟩
 ·rw [e];rfl
 ·unfold DX;rw [Mu h0 h1,hl,Ad (by rw [Ai];omega)];simp
theorem pZ {X:Ks} (hK:Dn K=true) {r:Int} (h:DX K r=true):Fd (K++X) r=Fd K r:=by
 unfold Fd;apply CO;intro s hs;rw [G0]at hs;unfold P6
 rcases CA h with e|⟨h0,h1,hl⟩
 ·rw [e];rfl
 ·rw [Mu h0 h1];simp only [A5 (show¬r<0 by omega)]
  rcases Hk hK h0 h1 hl (show s/4<4 by omega)with k1|⟨k1,k2,k3⟩
  ·rw [k1];rfl
  ·rw [Mu k1 (by omega)]
theorem Zy (hK:Dn K=true) {r:Int} (hr:DX K r=true) {s:Nat} (hs:s<16) (n:Int):(OE K r s n).length=4:=by
 unfold OE;rw [IF]
 rcases CA hr with e|⟨h0,h1,hl⟩
 ·rw [A3 (by omega)];rfl
 ·rw [A5 (by omega)]
  rcases Hk hK h0 h1 hl (show s/4<4 by omega)with k1|⟨k1,k2,k3⟩
  ·rw [A3 (by omega)];rfl
  ·rw [A5 (by omega)];exact(Ik hK k1 (by omega)).1
theorem fT (hK:Dn K=true) {r:Int} (hr:DX K r=true) (s:Nat):(QY K r s).length=4:=by
 unfold QY;rw [IF]
 rcases CA hr with e|⟨h0,h1,hl⟩
 ·rw [A3 (by omega)];rfl
 ·rw [A5 (by omega)];exact(Ik hK h0 h1).1
theorem S8 {r:Int} {s:Nat} {n:Int}:Cm (Kd K r s n) (K.length:Int)=BX.mk true (OE K r s n):=by
 unfold Cm Kd;rw [AK,AU (A6 _),P8];rfl
theorem S7 {r:Int} {s:Nat} {n:Int}:Cm (Kd K r s n) ((K.length:Int)+1)=BX.mk false (QY K r s):=by
 unfold Cm Kd;rw [show(K.length:Int)+1=((K.length+1:Nat):Int)from rfl,AK,AU (by omega),show K.length+1-K.length=1 by omega];rfl
theorem AA9 (hK:Dn K=true) {r:Int} (hr:DX K r=true) {s:Nat} (hs:s<16) {n:Int} (hn:0<=n):Dn (Kd K r s n)=true:=by
 rw [HG];intro j hj;have a:(Kd K r s n).length=K.length+2:=by unfold Kd;simp
 rw [a]at hj;by_cases h:j<K.length
 ·have hk:Cm (Kd K r s n) (j:Int)=Cm K (j:Int):=Mu (by omega) (by omega);rw [hk];obtain⟨h4,h5⟩:=HG.1 hK j h;refine⟨h4,fun m hm=>?_⟩;have:=h5 m hm
  cases hl:(Cm K (j:Int)).Leaf with
  |true=>rw [hl]at this;exact this
  |false=>
   rw [hl]at this;simp only [N3,Ae,CP,Cw,Ao,AB]at this⊢
   rcases this with e|⟨e1,e2⟩
   ·exact .inl e
   ·refine .inr ⟨e1,?_⟩;rw [show Cm (Kd K r s n) m=Cm K m from Mu e1.1 (by omega)];exact e2
 ·by_cases e:j=K.length
  ·subst e;rw [S8];refine⟨Zy hK hr hs n,fun m hm=>?_⟩;simp only [N3,Ag,AB];unfold OE at hm
   rcases DB hm with hm|hm
   ·rcases CA hr with e|⟨h0,h1,hl⟩
    ·rw [A3 (by omega)]at hm;simp at hm;omega
    ·rw [A5 (by omega)]at hm
     rcases Hk hK h0 h1 hl (show s/4<4 by omega)with k1|⟨k1,k2,k3⟩
     ·rw [A3 (by omega)]at hm;simp at hm;omega
     ·rw [A5 (by omega)]at hm;have hq:=HG.1 hK (Mv (Cm K r) (s/4)).toNat (by omega);rw [B7 k1,k3]at hq;have:=hq.2 m hm;simpa [N3]using this
   ·omega
  ·have:j=K.length+1:=by omega
   subst this;rw [show((K.length+1:Nat):Int)=(K.length:Int)+1 from rfl,S7];refine⟨fT hK hr s,fun m hm=>?_⟩;simp only [N3,Ae,CP,Cw,Ao,AB];unfold QY at hm
   rcases DB hm with hm|hm
   ·rcases CA hr with e|⟨h0,h1,hl⟩
    ·rw [A3 (by omega)]at hm;simp at hm;omega
    ·rw [A5 (by omega)]at hm;obtain⟨q,hq,rfl⟩:=AI hm;obtain⟨h4,hk⟩:=Ik hK h0 h1;have e5:=(hk q (by omega)).1;rw [Ac hq]at e5
     injection e5 with e5
     rw [e5]
     rcases Hk hK h0 h1 hl (show q<4 by omega)with k1|⟨k1,k2,k3⟩
     ·exact .inl k1
     ·refine .inr ⟨by omega,?_⟩;rw [show Cm (Kd K r s n) (Mv (Cm K r) q)=Cm K (Mv (Cm K r) q)from Mu k1 (by omega)];exact k3
   ·refine .inr ⟨by omega,?_⟩;rw [hm,S8]
theorem sF {r:Int} {s:Nat} {n:Int}:DX (Kd K r s n) ((K.length:Int)+1)=true:=by
 unfold DX;rw [S7,Ad (by unfold Kd;simp;omega)];simp
theorem qF (hK:Dn K=true) {r:Int} (hr:DX K r=true) {s:Nat} (hs:s<16) {n:Int}:Fd (Kd K r s n) ((K.length:Int)+1)=(Fd K r).set s n:=by
 unfold Fd;symm;apply PN;intro t ht;unfold P6;rw [S7];simp only [A5 (show¬((K.length:Int)+1)<0 by omega)];have a:=fT hK hr s;have b:=Zy hK hr hs n;by_cases hq:t/4=s/4
 ·have e1:Mv (BX.mk false (QY K r s)) (t/4)=(K.length:Int):=by
   unfold Mv QY;rw [hq,Cv,A3 rfl];unfold QY at a;rw [IF]at a;rw [A3 (by rw [a];omega)];rfl
  rw [e1,A5 (by omega),S8];have e2:Mv (BX.mk true (OE K r s n)) (t %4)=if t %4=s %4 then n else(if r<0 then 0 else if Mv (Cm K r) (s/4)<0 then 0 else Mv (Cm K (Mv (Cm K r) (s/4))) (t %4)):=by
   unfold Mv OE;unfold OE at b;rw [IF]at b;rw [Cv];by_cases e:s %4=t %4
   ·rw [A3 e,A3 (by rw [b];omega),A3 e.symm];rfl
   ·rw [A5 e,A5 (EF e)];have zero:([0,0,0,0]:List Int)[t %4]?.getD 0=0:=by
     have:t %4<4:=by omega
     generalize t %4=q at this
     match q,this with
     |0,_=>rfl
     |1,_=>rfl
     |2,_=>rfl
     |3,_=>rfl
    by_cases c1:r<0
    ·rw [A3 c1,A3 c1];exact zero
    ·rw [A5 c1,A5 c1];unfold Mv;by_cases c2:((Cm K r).Kids[s/4]?).getD 0<0
     ·rw [A3 c2,A3 c2];exact zero
     ·rw [A5 c2,A5 c2]
  rw [e2,hq];by_cases e:t=s
  ·rw [A3 e,A3 (by rw [e])]
  ·rw [A5 e,A5 (by omega)]
 ·rw [A5 (show¬t=s by intro e;rw [e]at hq;exact hq rfl)];have e1:Mv (BX.mk false (QY K r s)) (t/4)=if r<0 then-1 else Mv (Cm K r) (t/4):=by
   unfold Mv QY;rw [Cv,A5 (EF hq)];by_cases c1:r<0
   ·rw [A3 c1,A3 c1];have:t/4<4:=by omega
    generalize t/4=q at this
    match q,this with
    |0,_=>rfl
    |1,_=>rfl
    |2,_=>rfl
    |3,_=>rfl
   ·rw [A5 c1,A5 c1]
  rw [e1]
  rcases CA hr with e|⟨h0,h1,hl⟩
  ·rw [e];rfl
  ·simp only [A5 (show¬r<0 by omega)]
   rcases Hk hK h0 h1 hl (show t/4<4 by omega)with k1|⟨k1,k2,k3⟩
   ·rw [k1];rfl
   ·rw [show Cm (Kd K r s n) (Mv (Cm K r) (t/4))=Cm K (Mv (Cm K r) (t/4))from Mu k1 (by omega)]
end
end Go.TI
namespace Go.TI
open Go
def KQ (n:Nat) (p:Nat->Bool):Nat:=((List.range n).filter p).length
theorem Kp (n:Nat) (p:Nat->Bool):KQ (n+1) p=KQ n p+(if p n=true then 1 else 0):=by
 unfold KQ;rw [FK,AW,Ai];by_cases h:p n=true
 ·rw [A3 h,BK h];rfl
 ·rw [A5 h,BC h];rfl
theorem U7 (p q:Nat->Bool):∀n,KQ n (fun j=>p j||q j)<=KQ n p+KQ n q
 |0=>by simp [KQ]
 |n+1=>by
  have:=U7 p q n;rw [Kp,Kp,Kp];cases p n<;>cases q n<;>simp<;>omega
theorem WH (x:Int):∀n,KQ n (fun j=>decide (x=(j:Int)))<=1/\(x>=(n:Int)->KQ n (fun j=>decide (x=(j:Int)))=0)
 |0=>by simp [KQ]
 |n+1=>by
  obtain⟨h1,h2⟩:=WH x n;rw [Kp];by_cases h:x=(n:Int)
  ·have:=h2 (by omega);rw [A3 (by simpa using h)];exact⟨by omega,fun h3=>by omega⟩
  ·rw [A5 (by simpa using h)];exact⟨by omega,fun h3=>by rw [h2 (by omega)]⟩
theorem xV (l:List Int) (n:Nat):KQ n (fun j=>l.any fun x=>decide (x=(j:Int)))<=l.length:=by
 induction l with
 |nil=>simp [KQ]
 |cons x l ih=>
  simp only [List.any_cons,Az];have:=U7 (fun j=>decide (x=(j:Int))) (fun j=>l.any fun x=>decide (x=(j:Int))) n;have:=(WH x n).1;omega
theorem AAs {n:Nat} {p q:Nat->Bool} (h:∀j,j<n->p j=true->q j=true):KQ n p<=KQ n q:=by
 induction n with
 |zero=>simp [KQ]
 |succ n ih=>
  have:=ih (fun j hj=>h j (by omega));rw [Kp,Kp];by_cases e:p n=true
  ·rw [A3 e,A3 (h n (by omega) e)];omega
  ·rw [A5 e];omega
theorem kH {n:Nat} {p:Nat->Bool} (h:∀j,j<n->p j=true):KQ n p=n:=by
 induction n with
 |zero=>rfl
 |succ n ih=>rw [Kp,A3 (h n (by omega)),ih (fun j hj=>h j (by omega))]
section
variable {K:Ks} {R:List Int}
theorem AAk (hK:Dn K=true) {r:Int} (hr:DX K r=true) (n:Nat):KQ n (Ou K r)<=5:=by
 have h1:=U7 (fun j=>decide (r=(j:Int))) (fun j=>(Cm K r).Kids.any fun n=>decide (n=(j:Int))) n;have h2:=(WH r n).1;have h3:=xV (Cm K r).Kids n
 have h4:KQ n (Ou K r)<=KQ n (fun j=>decide (r=(j:Int))||(Cm K r).Kids.any fun n=>decide (n=(j:Int))):=AAs fun j _ h=>by
  unfold Ou at h;rw [Ao]at h;exact h.2
 rcases CA hr with e|⟨h0,hl,_⟩
 ·have:KQ n (Ou K r)=KQ n (fun _=>false):=by rw [e];rfl
  rw [this];unfold KQ;rw [Cn.2 (by simp)];simp
 ·have:=(Ik hK h0 hl).1;omega
theorem UN (hK:Dn K=true) (n:Nat):∀(R:List Int),(∀r∈R,DX K r=true)->KQ n (DK K R)<=5*R.length
 |[],_=>by simp [KQ,DK]
 |r::R,h=>by
  have h1:=UN hK n R (fun x hx=>h x (by simp [hx]));have h2:=AAk hK (h r (by simp)) n;have h3:=U7 (Ou K r) (DK K R) n;have h4:KQ n (DK K (r::R))=KQ n (fun j=>Ou K r j||DK K R j):=rfl;rw [h4,Az];omega
theorem rO (hK:Dn K=true) (hR:∀r∈R,DX K r=true):(TB K R).length<=5*R.length:=by
 rw [ZO];exact UN hK _ R hR
end
def Ci (s:Store):List Int:=s.Vols.map Vol.Root
structure SK (s:Store):Prop where
 len:s.Vols.length<=3
 ar:Dn s.Arena.Knots=true
 nx:1<=s.Next/\s.Next<=1000000000
 ids:∀v∈s.Vols,1<=v.Id/\v.Id<=9
 asc:(s.Vols.map Vol.Id).Pairwise (·<·)
 root:∀r∈Ci s,DX s.Arena.Knots r=true
 lt:∀r∈Ci s,∀x∈Fd s.Arena.Knots r,x<s.Next
 few:s.Arena.Knots.length<=1000
structure Ed (s:Store):Prop extends SK s where
 used:∀i,i<s.Arena.Knots.length->DK s.Arena.Knots (Ci s) i=true
theorem Ed.small {s:Store} (h:Ed s):s.Arena.Knots.length<=15:=by
 have h1:=UN h.ar s.Arena.Knots.length (Ci s) h.root;rw [kH h.used]at h1;have:(Ci s).length=s.Vols.length:=by unfold Ci;rw [Bw]
 have:=h.len;omega
def BZ (s:Store):List (Int×List Int):=s.Vols.map fun v=>(v.Id,Fd s.Arena.Knots v.Root)
def KV (s:Store):Store:=Store.mk (s.Vols.map fun v=>Vol.mk v.Id (PM s.Arena.Knots (Ci s) v.Root)) (Arena.mk (TB s.Arena.Knots (Ci s))) s.Next
theorem Oe (s:Store):Ci (KV s)=(Ci s).map (PM s.Arena.Knots (Ci s)):=by
 unfold Ci KV;simp only [Eq];rfl
theorem pV {s:Store} (h:SK s):Ed (KV s):=by
 have b:(Ci s).length=s.Vols.length:=by unfold Ci;rw [Bw]
 refine⟨⟨by unfold KV;simpa using h.len,AA1 h.ar h.root,h.nx,?_,?_,?_,?_,?_⟩,?_⟩
 ·intro v hv;unfold KV at hv;simp only [AP]at hv;obtain⟨w,hw,rfl⟩:=hv;exact h.ids w hw
 ·have:((KV s).Vols.map Vol.Id)=s.Vols.map Vol.Id:=by unfold KV;simp only [Eq];rfl
  rw [this];exact h.asc
 ·intro r hr;rw [Oe]at hr;obtain⟨q,hq,rfl⟩:=AP.1 hr;exact vI h.root hq
 ·intro r hr;rw [Oe]at hr;obtain⟨q,hq,rfl⟩:=AP.1 hr;have:=qD h.ar h.root hq;intro x hx;have a:x∈Fd s.Arena.Knots q:=by rw [<-this];exact hx
  exact h.lt q hq x a
 ·have:=rO h.ar h.root;have:=h.len;show(TB s.Arena.Knots (Ci s)).length<=1000;omega
 ·intro i hi;rw [Oe];exact zD h.ar h.root hi
theorem YT {s:Store} (h:SK s):BZ (KV s)=BZ s:=by
 unfold BZ;show(s.Vols.map fun v=>Vol.mk v.Id (PM s.Arena.Knots (Ci s) v.Root)).map _=_;rw [Eq];apply CO;intro v hv;have:=qD h.ar h.root (show v.Root∈Ci s from AP.2 ⟨v,hv,rfl⟩);show(v.Id,Fd (TB s.Arena.Knots (Ci s)) (PM s.Arena.Knots (Ci s) v.Root))=_;rw [this]
theorem Ql (s:Store) (hv:s.Vols.length<=1048576):JT s=some (Ci s):=by
 unfold JT;obtain⟨b,h1,h2⟩:=Bs (body:=fun q:List Int×Int=>FP s q.1 q.2) (fun(o:List Int) i=>(o,i)) s.Vols.length (fun i o=>o=(s.Vols.take i).map Vol.Root) (fun b=>b=Ci s)
  (fun o i hi ho=>by
   have hx:=Ac hi;simp only [FP,AX,Ad hi,Ag,AK,hx,Aa];rw [CH (by rw [ho];simp;omega)];simp only [Aa];rw [ad1 (by omega)]
   exact .inl ⟨_,rfl,by rw [ho,Ep,hx,C0];rfl⟩)
  (fun o ho=>⟨o,by simp only [FP,AX,Ay,A8,Ae],by rw [ho,Bc (A6 _)];rfl⟩) (s:=[]) rfl
 have h1':A0 (fun q:List Int×Int=>FP s q.1 q.2) ([],0)=some b:=h1;rw [h1',h2];rfl
theorem Qk {s:Store} (h:SK s):FO s=some (KV s):=by
 have hl:=h.len;have hf:=h.few;have d:(Ci s).length=s.Vols.length:=by unfold Ci;rw [Bw]
 unfold FO;rw [Ql s (by omega)];simp only [Aa];rw [V3 _ (by omega) h.ar _ (by omega) h.root];simp only [Aa];rw [O6 (by omega)];simp only [Aa];have q:=R6 (body:=fun q:Int×List Vol=>GU ((Ci s).map (PM s.Arena.Knots (Ci s)),TB s.Arena.Knots (Ci s)) q.1 q.2) (fun l i=>(i,l)) (fun _ v=>Vol.mk v.Id (PM s.Arena.Knots (Ci s) v.Root)) s.Vols
  (fun i l x a b c=>by
   have hi:=(Aj.1 b).1;simp only [GU,AX,Ad hi,Ag];have:gi ((Ci s).map (PM s.Arena.Knots (Ci s))) (i:Int)=some (PM s.Arena.Knots (Ci s) x.Root):=by
    rw [AK,Bh];unfold Ci;rw [Bh,c];rfl
   rw [this,AK,b];simp only [Aa]
   rw [Hu,ad1 (by omega)])
  (fun l a=>by simp only [GU,Co,a];rw [Af (by omega),Ae])
 rw [Ol]at q;rw [q];rfl
theorem uQ {s:Store} (h:Ed s):KV s=s:=by
 have c:∀i,i<=s.Arena.Knots.length->Zm s.Arena.Knots (Ci s) i=i:=fun i hi=>kH (fun j hj=>h.used j (by omega))
 have a:∀n:Int,n<(s.Arena.Knots.length:Int)->PM s.Arena.Knots (Ci s) n=n:=fun n hn=>by
  unfold PM;split
  ·rw [c _ (by omega)];omega
  ·rfl
 have b:∀r∈Ci s,PM s.Arena.Knots (Ci s) r=r:=fun r hr=>by
  rcases CA (h.root r hr)with e|⟨h0,h1,_⟩
  ·rw [e,PK (by omega)]
  ·exact a r h1
 have d:TB s.Arena.Knots (Ci s)=s.Arena.Knots:=by
  unfold TB;rw [Ev.2 (fun i hi=>h.used i (by simpa using hi))];apply CW;intro i;rw [Bh];by_cases hi:i<s.Arena.Knots.length
  ·rw [OM hi,Ac hi];simp only [B4];congr 1;have h0:(0:Int)<=(i:Int):=by omega
   have h1:(i:Int)<(s.Arena.Knots.length:Int):=by omega
   unfold lJ
   cases hl:(Cm s.Arena.Knots (i:Int)).Leaf with
   |true=>
    simp only [Ag];rw [<-hl,Pp hi]
   |false=>
    simp only [Ae];have:(Cm s.Arena.Knots (i:Int)).Kids.map (PM s.Arena.Knots (Ci s))=(Cm s.Arena.Knots (i:Int)).Kids:=by
     conv=>rhs;rw [<-QQ (Cm s.Arena.Knots (i:Int)).Kids]
     apply CO;intro n hn;obtain⟨q,hq,rfl⟩:=AI hn;obtain⟨h4,hk⟩:=Ik h.ar h0 h1;have e5:=(hk q (by omega)).1;rw [Ac hq]at e5
     injection e5 with e5
     rw [e5]
     rcases Hk h.ar h0 h1 hl (show q<4 by omega)with k1|⟨k1,k2,k3⟩
     ·rw [k1,PK (by omega)];rfl
     ·exact a _ (by omega)
    rw [this,<-hl,Pp hi]
  ·rw [Dm (by simpa using hi),Dm (by omega)];rfl
 unfold KV;rw [d];have:(s.Vols.map fun v=>Vol.mk v.Id (PM s.Arena.Knots (Ci s) v.Root))=s.Vols:=by
  conv=>rhs;rw [<-QQ s.Vols]
  apply CO;intro v hv;rw [b _ (AP.2 ⟨v,hv,rfl⟩)];rfl
 rw [this]
theorem WK {K:Ks} {r:Int} {s:Nat} (hs:s<16):P6 K r s∈Fd K r:=AP.2 ⟨s,by simpa using hs,rfl⟩
theorem Pk {l:List Int} (h:l.Pairwise (·<·)) {i j:Nat} {x y:Int} (a:i<j) (hx:l[i]?=some x) (hy:l[j]?=some y):x<y:=by
 obtain⟨h1,rfl⟩:=Aj.1 hx;obtain⟨h2,rfl⟩:=Aj.1 hy;exact DA.1 h i j h1 h2 a
theorem Tg {s:Store} (h:Ed s):LG s=some true:=by
 have hl:=h.len;have hf:=h.few;have d:(Ci s).length=s.Vols.length:=by unfold Ci;rw [Bw]
 unfold LG;rw [Co,Af (by omega),Ae,L0 _ (by omega),h.ar,El,Ad h.nx];simp only [Aa,Au,Ae];obtain⟨b,h1,h2⟩:=Bs (body:=fun q:Int=>GG s q) (fun(_:Unit) i=>i) s.Vols.length (fun _ _=>True) (fun b=>b= .inl ())
  (fun _ i hi _=>by
   have hx:=Ac hi;have hm:s.Vols[i]∈s.Vols:=AQ hi;have hr:s.Vols[i].Root∈Ci s:=AP.2 ⟨_,hm,rfl⟩;simp only [GG,AX,Ad hi,Ag,AK,hx,Aa];rw [El,Ad (h.ids _ hm),Lx _ (by omega),h.root _ hr];simp only [Aa,Au,Ae];have a:(bif(decide ((i:Int)>0))then((gi s.Vols (sb (i:Int) 1)).bind fun x2=>bif(decide (x2.Id>=s.Vols[i].Id))then(some true)else(some false))else(some false):Option Bool)=some false:=by
    by_cases h0:i=0
    ·rw [Af (by omega:¬(i:Int)>0),Ae]
    ·rw [Ad (by omega:(i:Int)>0),Ag,C7 (by omega) (by omega),show(i:Int)-1=((i-1:Nat):Int) by omega,AK,Ac (by omega)];simp only [Aa];have:=Pk h.asc (show i-1<i by omega) (x:=s.Vols[i-1].Id) (y:=s.Vols[i].Id) (by rw [Bh,Ac (by omega)];rfl) (by rw [Bh,Ac (by omega)];rfl);rw [Af (by omega),Ae]
   rw [a];simp only [Aa,Ae];obtain⟨c,q1,q2⟩:=Bs (body:=fun q:Int=>GF s s.Vols[i] q) (fun(_:Unit) i=>i) 16 (fun _ _=>True) (fun b=>b= .inl ())
    (fun _ k hk _=>by
     simp only [GF];rw [Ad (by omega:(k:Int)<16),Ag,Tb _ h.ar (h.root _ hr) hk];simp only [Aa];have:=h.lt _ hr _ (WK hk);rw [Af (by omega),Ae,ad1 (by omega)]
     exact .inl ⟨(),rfl,trivial⟩)
    (fun _ _=>⟨_,by simp only [GF];rw [Af (by omega:¬((16:Nat):Int)<16),Ae],rfl⟩) (s:=()) trivial
   have q1':A0 (fun q:Int=>GF s s.Vols[i] q) 0=some c:=q1;rw [q1',q2];simp only [Aa,Cu];rw [ad1 (by omega)]
   exact .inl ⟨(),rfl,trivial⟩)
  (fun _ _=>⟨_,by simp only [GG,AX,Ay,A8,Ae],rfl⟩) (s:=()) trivial
 have h1':A0 (fun q:Int=>GG s q) 0=some b:=h1;rw [h1',h2];simp only [Aa,Cu];rw [Ql s (by omega)];simp only [Aa];rw [V3 _ (by omega) h.ar _ (by omega) h.root];simp only [Aa];have:TB s.Arena.Knots (Ci s)=s.Arena.Knots:=by
  have:=uQ h;unfold KV at this;have:=BH (fun z=>z.Arena.Knots) this;exact this
 rw [this];simp
end Go.TI
namespace Go.TI
open Go
abbrev Vs:=List (Int×List Int)
def L6 (l:Vs) (id:Int):Option (List Int):=(l.find? fun p=>p.1==id).map Prod.snd
def tH (l:Vs) (id:Int) (row:List Int):Vs:=(l.filter fun p=>decide (p.1<id))++ [(id,row)]++l.filter fun p=>decide (p.1>id)
def ACI (l:Vs) (id:Int):Vs:=l.filter fun p=>p.1 !=id
def mC (l:Vs) (id:Int) (s:Nat) (n:Int):Vs:=l.map fun p=>if p.1=id then(p.1,p.2.set s n)else p
def HX (r:Dk):Bool:=decide (0<=r.Arg/\r.Arg<=1000000000)&&(bif r.Kind==1 then r.Vol==0&&r.Chunk==0 else decide (2<=r.Kind/\r.Kind<=5)&&decide (1<=r.Vol/\r.Vol<=9)&&(r.Kind==4||r.Chunk==0)&&
 (bif r.Kind==2 then decide (r.Arg<=9)else bif r.Kind==3 then r.Arg==0 else bif r.Kind==4 then decide (r.Arg<16)&&decide (1<=r.Chunk/\r.Chunk<=1000000000)else decide (r.Arg<16)))
def QU:List Int:=List.replicate 16 0
def DS (l:Vs) (nx:Int) (r:Dk):Option (Vs×Int):=
 if HX r=false then none
 else if r.Kind=1 then some ([],if r.Arg=0 then 1 else r.Arg)
 else if r.Kind=2 then
  if(0<r.Arg/\L6 l r.Arg=none)\/L6 l r.Vol≠none\/l.length=3 then none
  else some (tH l r.Vol (if 0<r.Arg then(L6 l r.Arg).getD QU else QU),nx)
 else if L6 l r.Vol=none\/r.Chunk=1000000000 then none
 else if r.Kind=3 then some (ACI l r.Vol,nx)
 else some (mC l r.Vol r.Arg.toNat r.Chunk,max nx (r.Chunk+1))
theorem PH (r:Dk):NY r=some (HX r):=by
 unfold NY HX;simp only [El,Aa]
 cases decide (0<=r.Arg/\r.Arg<=1000000000)with
 |false=>rfl
 |true=>
  simp only [Au,Ae,C8]
  cases r.Kind==1 with
  |true=>
   simp only [Ag];cases r.Vol==0<;>rfl
  |false=>
   simp only [Ae]
   cases decide (2<=r.Kind/\r.Kind<=5)with
   |false=>rfl
   |true=>
    cases decide (1<=r.Vol/\r.Vol<=9)with
    |false=>rfl
    |true=>
     have e1:(r.Kind !=4)=!(r.Kind==4):=rfl;have e2:(r.Chunk !=0)=!(r.Chunk==0):=rfl;rw [e1,e2];cases r.Kind==4<;>cases r.Chunk==0<;>cases r.Kind==2<;>cases r.Kind==3<;>cases decide (r.Arg<16)<;>rfl
theorem I5 (s:Store) (hv:s.Vols.length<=1048576) (id:Int):(Gd s id=some (-1)/\∀v∈s.Vols,v.Id≠id)\/∃k:Nat,∃v,Gd s id=some (k:Int)/\s.Vols[k]?=some v/\v.Id=id/\∀j w,j<k->s.Vols[j]?=some w->w.Id≠id:=by
 unfold Gd;obtain⟨b,h1,h2⟩:=Bs (body:=fun q:Int=>I6 s id q) (fun(_:Unit) i=>i) s.Vols.length (fun i _=>∀j w,j<i->s.Vols[j]?=some w->w.Id≠id)
  (fun b=>(b= .inl ()/\∀v∈s.Vols,v.Id≠id)\/∃k:Nat,∃v,b= .inr (k:Int)/\s.Vols[k]?=some v/\v.Id=id/\∀j w,j<k->s.Vols[j]?=some w->w.Id≠id)
  (fun _ i hi hs=>by
   have hx:=Ac hi;simp only [I6,AX,Ad hi,Ag,AK,hx,Aa]
   cases e:(s.Vols[i].Id==id)with
   |true=>exact .inr ⟨_,rfl,.inr ⟨i,_,rfl,hx,by simpa using e,hs⟩⟩
   |false=>
    simp only [Ae];rw [ad1 (by omega)];refine .inl ⟨(),rfl,fun j w hj hw=>?_⟩;by_cases e2:j=i
    ·subst e2;rw [hx]at hw
     injection hw with hw
     rw [<-hw];simpa using e
    ·exact hs j w (by omega) hw)
  (fun _ hs=>⟨_,by simp only [I6,AX,Ay,A8,Ae],.inl ⟨rfl,fun v hv=>by
   obtain⟨j,hj,rfl⟩:=AI hv
   exact hs j _ hj (Ac hj)⟩⟩) (s:=()) (fun j w hj=>by omega)
 have h1':A0 (fun q:Int=>I6 s id q) 0=some b:=h1;rw [h1']
 rcases h2 with⟨rfl,h2⟩|⟨k,v,rfl,h2⟩
 ·exact .inl ⟨rfl,h2⟩
 ·exact .inr ⟨k,v,rfl,h2⟩
theorem N9 {s:Store} {id:Int}:(∀v∈s.Vols,v.Id≠id)↔L6 (BZ s) id=none:=by
 unfold L6 BZ;rw [Option.map_eq_none_iff,ER];constructor
 ·intro h p hp;obtain⟨v,hv,rfl⟩:=AP.1 hp;simpa using h v hv
 ·intro h v hv;have:=h _ (AP.2 ⟨v,hv,rfl⟩);simpa using this
theorem AAu {s:Store} (h:(s.Vols.map Vol.Id).Pairwise (·<·)) {v w:Vol} (hv:v∈s.Vols) (hw:w∈s.Vols) (e:v.Id=w.Id):v=w:=by
 obtain⟨i,hi,rfl⟩:=AI hv;obtain⟨j,hj,rfl⟩:=AI hw;have gi:(s.Vols.map Vol.Id)[i]?=some s.Vols[i].Id:=by rw [Bh,Ac hi];rfl
 have gj:(s.Vols.map Vol.Id)[j]?=some s.Vols[j].Id:=by rw [Bh,Ac hj];rfl
 rcases M8 i j with h1|h1|h1
 ·have:=Pk h h1 gi gj;omega
 ·subst h1;rfl
 ·have:=Pk h h1 gj gi;omega
theorem N8 {s:Store} (h:(s.Vols.map Vol.Id).Pairwise (·<·)) {v:Vol} (hv:v∈s.Vols):L6 (BZ s) v.Id=some (Fd s.Arena.Knots v.Root):=by
 unfold L6;have hm:(v.Id,Fd s.Arena.Knots v.Root)∈BZ s:=AP.2 ⟨v,hv,rfl⟩
 cases hf:(BZ s).find? fun p=>p.1==v.Id with
 |none=>
  rw [ER]at hf;have:=hf _ hm;simp at this
 |some p=>
  have h1:=List.find?_some hf;have h2:=List.mem_of_find?_eq_some hf;obtain⟨w,hw,rfl⟩:=AP.1 h2;have:w=v:=AAu h hw hv (by simpa using h1);rw [this];rfl
theorem NI (s:Store):(BZ s).length=s.Vols.length:=by unfold BZ;rw [Bw]
theorem iY (K:Ks):Fd K (-1)=QU:=by
 unfold Fd QU;rw [<-Ck (n:=16),<-Ln,Ck];apply CO;intro s hs;rfl
theorem o6 (s:Store) (p:Int->Bool) (t:Store) (hk:t.Arena=s.Arena) (hv:t.Vols=s.Vols.filter fun v=>p v.Id):BZ t=(BZ s).filter fun q=>p q.1:=by
 unfold BZ;rw [hk,hv,List.filter_map];rfl
theorem Zz {body:List Vol×Int->Option ((List Vol×Int)⊕List Vol)} (l:List Vol) (p:Vol->Bool) (o:List Vol) (hM:l.length+o.length<=1048576)
  (h1:∀(i:Nat) v (out:List Vol),l[i]?=some v->out.length<=1048576->body (out,(i:Int))=some (.inl (bif p v then out++ [v]else out,((i+1:Nat):Int)))) (h2:∀out,body (out,(l.length:Int))=some (.inr out)):
  A0 body (o,0)=some (o++l.filter p):=by
 obtain⟨b,h3,h4⟩:=Bs (body:=body) (fun(q:List Vol) i=>(q,i)) l.length (fun i q=>q=o++(l.take i).filter p) (fun b=>b=o++l.filter p)
  (fun q i hi hq=>by
   have hx:=Ac hi;refine .inl ⟨_,h1 i _ q hx ?_,?_⟩
   ·rw [hq,Ai];have:=BY p (l.take i);rw [AH]at this;omega
   ·rw [hq,Ep,hx,AW]
    cases e:p l[i]with
    |true=>simp [e]
    |false=>simp [e])
  (fun q hq=>⟨q,h2 q,by rw [hq,Bc (A6 _)]⟩) (s:=o) (by simp)
 rw [h3,h4]
theorem wU {K:Ks} {R R':List Int} (h:∀r∈R,r∈R') {i:Nat} (hu:DK K R i=true):DK K R' i=true:=by
 unfold DK at hu⊢;rw [D8]at hu⊢;obtain⟨r,hr,h2⟩:=hu;exact⟨r,h r hr,h2⟩
theorem l9 {l:List Vol} (h:(l.map Vol.Id).Pairwise (·<·)) (v:Vol):(((l.filter fun w=>decide (w.Id<v.Id))++ [v]++l.filter fun w=>decide (w.Id>v.Id)).map Vol.Id).Pairwise (·<·):=by
 rw [M9]at h;rw [M9,Ar,Bp];refine⟨h.filter _,?_,?_⟩
 ·rw [Ch,CJ];exact⟨fun w hw=>by simpa using(AT.1 hw).2,h.filter _⟩
 ·intro a ha b hb;have h1:a.Id<v.Id:=by simpa using(AT.1 ha).2
  rw [Ch,BP]at hb
  rcases hb with rfl|hb
  ·exact h1
  ·have:b.Id>v.Id:=by simpa using(AT.1 hb).2
   omega
theorem rU (l:List Vol) (id:Int):(l.filter fun w=>decide (w.Id<id)).length+(l.filter fun w=>decide (w.Id>id)).length<=l.length:=by
 induction l with
 |nil=>simp
 |cons v l ih=>
  simp only [List.filter_cons,Az];by_cases h1:v.Id<id
  ·rw [A3 (by simpa using h1),A5 (by simp;omega),Az];omega
  ·rw [A5 (by simpa using h1)];split
   ·rw [Az];omega
   ·omega
def On (s:Store) (r:Dk) (o:Option (Store×Bool)):Prop:=match DS (BZ s) s.Next r with
 |none=>o=some (s,false)
 |some (l,nx)=>∃t,o=some (t,true)/\Ed t/\BZ t=l/\t.Next=nx
theorem tO {s:Store} (h:Ed s) {r:Dk} (hr:HX r=true) (hk:r.Kind=2):On s r (KA s r):=by
 have hl:=h.len;have c:=RX h.ar (by have:=h.few;omega);have a:=Lw s c (by omega);have hb:HX r=true:=hr;unfold HX at hr;rw [hk]at hr;simp at hr;unfold On DS;rw [hb,hk];simp only [I2,J8,Cg,show¬((2:Int)=1) by omega];unfold KA;have root:(L6 (BZ s) r.Arg=none/\0<r.Arg/\(bif(decide (r.Arg>0))then((Gd s r.Arg).bind fun v1=>bif(decide (v1<0))then((Ea s).bind fun v2=>some (.inr (v2,false)))else((gi s.Vols v1).bind fun x1=>some (.inl x1.Root)))else(some (.inl (-1))):Option ((Int)⊕((Store×Bool))))=some (.inr (s,false)))\/
   (¬(0<r.Arg/\L6 (BZ s) r.Arg=none)/\∃q,DX s.Arena.Knots q=true/\(q= -1\/q∈Ci s)/\Fd s.Arena.Knots q=(if 0<r.Arg then(L6 (BZ s) r.Arg).getD QU else QU)/\(bif(decide (r.Arg>0))then((Gd s r.Arg).bind fun v1=>bif(decide (v1<0))then((Ea s).bind fun v2=>some (.inr (v2,false)))else((gi s.Vols v1).bind fun x1=>some (.inl x1.Root)))else(some (.inl (-1))):Option ((Int)⊕((Store×Bool))))=some (.inl q)):=by
  by_cases h0:0<r.Arg
  ·rw [Ad (by omega:r.Arg>0)];simp only [Ag]
   rcases I5 s (by omega) r.Arg with⟨h1,h2⟩|⟨k,v,h1,h2,h3,_⟩
   ·left;rw [h1,a];exact⟨N9.1 h2,h0,rfl⟩
   ·right;rw [h1];have hm:=AO h2;have hg:=N8 h.asc hm;rw [h3]at hg;refine⟨fun hh=>(by rw [hg]at hh;cases hh.2),v.Root,h.root _ (AP.2 ⟨v,hm,rfl⟩),.inr (AP.2 ⟨v,hm,rfl⟩),?_,?_⟩
    ·rw [A3 h0,hg];rfl
    ·simp only [Aa];rw [Af (by omega),Ae,AK,h2];rfl
  ·right;rw [Af (by omega:¬r.Arg>0),A5 h0];exact⟨fun hh=>h0 hh.1,-1,rfl,.inl rfl,iY _,rfl⟩
 rcases root with⟨g1,g2,g3⟩|⟨g1,q,g2,g3,g4,g5⟩
 ·rw [g3,A3 (.inl ⟨g2,g1⟩)];rfl
 ·rw [g5];simp only [Aa,Cu]
  rcases I5 s (by omega) r.Vol with⟨h1,h2⟩|⟨k,v,h1,h2,h3,_⟩
  ·rw [h1];simp only [Aa];rw [Af (by omega),Ae,Co];have g:L6 (BZ s) r.Vol=none:=N9.1 h2;by_cases h3:s.Vols.length=3
   ·rw [h3,A3 (.inr (.inr (by rw [NI,h3])))];simp only [Aa];rw [a];rfl
   ·have e3:((s.Vols.length:Int)==3)=false:=by simp;omega
    rw [e3,A5 (by
     rintro(hh|hh|hh)
     ·exact g1 hh
     ·exact hh g
     ·rw [NI]at hh;exact h3 hh)]
    simp only [Aa,Ae];rw [a];simp only [Aa];have k1:=Zz (body:=fun q:List Vol×Int=>IN s r q.1 q.2) s.Vols (fun v=>decide (v.Id<r.Vol)) [] (by simp;omega)
     (fun i v out hv ho=>by
      have hi:=(Aj.1 hv).1;simp only [IN,AX,Ad hi,Ag,AK,hv,Aa];rw [ad1 (by omega)]
      cases decide (v.Id<r.Vol)with
      |true=>simp only [Ag];rw [CH (by simp;omega)];rfl
      |false=>rfl)
     (fun out=>by simp only [IN,AX,Ay,A8,Ae])
    rw [AA]at k1;rw [k1];simp only [Aa];have j:=rU s.Vols r.Vol;rw [CH (by simp;omega)];simp only [Aa];have k2:=Zz (body:=fun q:List Vol×Int=>IM s r q.1 q.2) s.Vols (fun v=>decide (v.Id>r.Vol)) ((s.Vols.filter fun v=>decide (v.Id<r.Vol))++ [Vol.mk r.Vol q]) (by simp;omega)
     (fun i v out hv ho=>by
      have hi:=(Aj.1 hv).1;simp only [IM,AX,Ad hi,Ag,AK,hv,Aa];rw [ad1 (by omega)]
      cases decide (v.Id>r.Vol)with
      |true=>simp only [Ag];rw [CH (by simp;omega)];rfl
      |false=>rfl)
     (fun out=>by simp only [IM,AX,Ay,A8,Ae])
    rw [k2];simp only [Aa];have d:((s.Vols.filter fun v=>decide (v.Id<r.Vol))++ [Vol.mk r.Vol q]++s.Vols.filter fun v=>decide (v.Id>r.Vol)).length<=3:=by simp only [Ai,Az,Bn];omega
    have f:∀x∈Ci s,x∈(Ci (Store.mk ((s.Vols.filter fun v=>decide (v.Id<r.Vol))++ [Vol.mk r.Vol q]++s.Vols.filter fun v=>decide (v.Id>r.Vol)) s.Arena s.Next)):=by
     intro x hx;obtain⟨v,hv,rfl⟩:=AP.1 hx;refine AP.2 ⟨v,?_,rfl⟩;have:=h2 v hv;simp only [Ak,AT,A9];by_cases e:v.Id<r.Vol
     ·exact .inl (.inl ⟨hv,by simpa using e⟩)
     ·exact .inr ⟨hv,by simp;omega⟩
    have b:∀x∈(Ci (Store.mk ((s.Vols.filter fun v=>decide (v.Id<r.Vol))++ [Vol.mk r.Vol q]++s.Vols.filter fun v=>decide (v.Id>r.Vol)) s.Arena s.Next)),x= -1\/x∈Ci s:=by
     intro x hx;obtain⟨v,hv,rfl⟩:=AP.1 hx;simp only [Ak,AT,A9]at hv
     rcases hv with(hv|rfl)|hv
     ·exact .inr (AP.2 ⟨v,hv.1,rfl⟩)
     ·exact g3
     ·exact .inr (AP.2 ⟨v,hv.1,rfl⟩)
    refine⟨_,rfl,⟨⟨d,h.ar,h.nx,?_,l9 h.asc (Vol.mk r.Vol q),?_,?_,h.few⟩,?_⟩,?_,rfl⟩
    ·intro v hv;simp only [Ak,AT,A9]at hv
     rcases hv with(hv|rfl)|hv
     ·exact h.ids v hv.1
     ·show 1<=r.Vol/\r.Vol<=9;omega
     ·exact h.ids v hv.1
    ·intro x hx
     rcases b x hx with e|e
     ·rw [e];rfl
     ·exact h.root x e
    ·intro x hx
     rcases b x hx with e|e
     ·intro y hy;rw [e]at hy;change y∈Fd s.Arena.Knots (-1)at hy;rw [iY]at hy;have:=DQ hy;have:=h.nx;show y<s.Next;omega
     ·exact h.lt x e
    ·intro i hi;exact wU f (h.used i hi)
    ·rw [<-g4];unfold tH BZ;simp only [C0,Ca,pG,List.filter_map];rfl
  ·rw [h1];simp only [Aa];rw [Ad (by omega),Ag];have hg:=N8 h.asc (AO h2);rw [h3]at hg;rw [A3 (.inr (.inl (by rw [hg];simp)))];simp only [Aa,Ag];rw [a];rfl
theorem YC {l:List Vol} (h:(l.map Vol.Id).Pairwise (·<·)) {k:Nat} {v:Vol} (hv:l[k]?=some v):l.take k++l.drop (k+1)=l.filter fun w=>w.Id !=v.Id:=by
 rw [M9]at h;have hk:=(Aj.1 hv).1;have e:l=l.take k++v::l.drop (k+1):=by
  have h2:=Bt hk;rw [(Aj.1 hv).2]at h2;rw [<-h2,Bv]
 rw [e,Bp]at h;obtain⟨h1,h2,h3⟩:=h;rw [CJ]at h2
 conv=>rhs;rw [e]
 rw [AW,BC (by simp)];congr 1
 ·symm;rw [Ev];intro w hw;have:=h3 w hw v (by simp);simp;omega
 ·symm;rw [Ev];intro w hw;have:=h2.1 w hw;simp;omega
theorem xI {s:Store} (h:Ed s) (r:Dk):On s r (Rs s r):=by
 have hl:=h.len;have g:=RX h.ar (by have:=h.few;omega);have a:=Lw s g (by omega);unfold Rs;rw [Tg h,PH];simp only [Aa,Au,Ae]
 cases hb:HX r with
 |false=>
  simp only [Bm,Ag];rw [a];unfold On DS;rw [hb];rfl
 |true=>
  simp only [Au,Ae];have hr:=hb;unfold HX at hr
  cases k1:(r.Kind==1)with
  |true=>
   have e1:r.Kind=1:=by simpa using k1
   rw [e1]at hr;simp at hr;unfold On DS;rw [hb,e1];simp only [I2,J8,Cg,Ag];have:(bif(r.Arg==0)then(some 1)else(some r.Arg):Option (Int))=some (if r.Arg=0 then 1 else r.Arg):=by
    by_cases e:r.Arg=0
    ·rw [A3 e,e];rfl
    ·rw [A5 e,show(r.Arg==0)=false by simpa using e];rfl
   rw [this];refine⟨_,rfl,⟨⟨by simp,rfl,?_,by simp,by simp,by simp [Ci],by simp [Ci],by simp⟩,by simp⟩,rfl,rfl⟩;show 1<=(if r.Arg=0 then 1 else r.Arg)/\(if r.Arg=0 then 1 else r.Arg)<=1000000000;split<;>omega
  |false=>
   simp only [Ae];have n1:r.Kind≠1:=by simpa using k1
   rw [k1]at hr
   cases k2:(r.Kind==2)with
   |true=>
    simp only [Ag];have:=tO h hb (by simpa using k2);have e:((KA s r).bind fun v4=>some (v4.1,v4.2))=KA s r:=by cases KA s r<;>rfl
    rw [e];exact this
   |false=>
    simp only [Ae];have n2:r.Kind≠2:=by simpa using k2
    rw [k2]at hr;have hv:1<=r.Vol/\r.Vol<=9:=by simp at hr;omega
    unfold On DS;rw [hb];simp only [I2,J8,A5 n1,A5 n2]
    rcases I5 s (by omega) r.Vol with⟨h1,h2⟩|⟨k,v,h1,h2,h3,_⟩
    ·rw [h1];simp only [Aa];rw [Ad (by omega),Ag,A3 (.inl (N9.1 h2))];simp only [Aa,Ag];rw [a];rfl
    ·rw [h1];simp only [Aa];rw [Af (by omega),Ae];simp only [Aa];have hm:=AO h2;have i:=(Aj.1 h2).1;have hg:=N8 h.asc hm;rw [h3]at hg
     cases hc:(r.Chunk==1000000000)with
     |true=>
      simp only [Ag];rw [A3 (.inr (by simpa using hc)),a];rfl
     |false=>
      simp only [Ae];have m:r.Chunk≠1000000000:=by simpa using hc
      rw [A5 (by
       rintro(hh|hh)
       ·rw [hg]at hh;cases hh
       ·exact m hh),a]
      simp only [Aa]
      cases k3:(r.Kind==3)with
      |true=>
       have e3:r.Kind=3:=by simpa using k3
       rw [A3 e3];simp only [Ag];rw [Co,ad1 (by omega)];have d1:dr s.Vols 0 (k:Int)=some (s.Vols.take k):=by
        unfold dr;rw [A3 ⟨by omega,by omega,by omega⟩];simp
       have d2:dr s.Vols ((k+1:Nat):Int) (s.Vols.length:Int)=some (s.Vols.drop (k+1)):=by
        unfold dr;rw [A3 ⟨by omega,by omega,by omega⟩,B9,B9,Bc (by simp)]
       rw [d1,d2];simp only [Aa];rw [O6 (by simp;omega)];simp only [Aa];rw [CH (by simp;omega),YC h.asc h2,h3];simp only [Aa];have hR:SK (Store.mk (s.Vols.filter fun w=>w.Id !=r.Vol) s.Arena s.Next):=by
        refine⟨?_,h.ar,h.nx,fun v hv=>h.ids v (AT.1 hv).1,?_,?_,?_,h.few⟩
        ·have:=BY (fun w:Vol=>w.Id !=r.Vol) s.Vols;show(s.Vols.filter fun w=>w.Id !=r.Vol).length<=3;omega
        ·have:=h.asc;rw [M9]at this⊢;exact this.filter _
        ·intro x hx;obtain⟨w,hw,rfl⟩:=AP.1 hx;exact h.root _ (AP.2 ⟨w,(AT.1 hw).1,rfl⟩)
        ·intro x hx;obtain⟨w,hw,rfl⟩:=AP.1 hx;exact h.lt _ (AP.2 ⟨w,(AT.1 hw).1,rfl⟩)
       rw [Qk hR];refine⟨_,rfl,pV hR,?_,rfl⟩;rw [YT hR];exact o6 s (fun id=>id !=r.Vol) _ rfl rfl
      |false=>
       have n3:r.Kind≠3:=by simpa using k3
       rw [A5 n3];simp only [Ae];rw [k3]at hr;have ha:0<=r.Arg/\r.Arg<16/\0<=r.Chunk/\r.Chunk<=1000000000:=by
        cases k4:(r.Kind==4)with
        |true=>rw [k4]at hr;simp at hr;omega
        |false=>rw [k4]at hr;simp at hr;omega
       obtain⟨t,ht⟩:∃t:Nat,r.Arg=(t:Int):=⟨_,(B7 ha.1).symm⟩;rw [AK,h2];simp only [Aa];have c:=h.root _ (AP.2 ⟨v,hm,rfl⟩);rw [ht,m6 _ (by have:=h.few;omega) h.ar c (by omega) ha.2.2.1];simp only [Aa];rw [Hu];have h0:=h.small;have hR:SK (Store.mk (s.Vols.set k (Vol.mk v.Id ((s.Arena.Knots.length:Int)+1))) (Arena.mk (Kd s.Arena.Knots v.Root t r.Chunk)) (max s.Next (r.Chunk+1))):=by
        have d:∀w∈s.Vols.set k (Vol.mk v.Id ((s.Arena.Knots.length:Int)+1)),w∈s.Vols\/w=Vol.mk v.Id ((s.Arena.Knots.length:Int)+1):=fun w hw=>DB hw
        refine⟨by simpa using hl,AA9 h.ar c (by omega) ha.2.2.1,?_,?_,?_,?_,?_,?_⟩
        ·have:=h.nx;show 1<=max s.Next (r.Chunk+1)/\max s.Next (r.Chunk+1)<=1000000000;omega
        ·intro w hw
         rcases d w hw with hw|rfl
         ·exact h.ids w hw
         ·exact h.ids v hm
        ·have:(s.Vols.set k (Vol.mk v.Id ((s.Arena.Knots.length:Int)+1))).map Vol.Id=s.Vols.map Vol.Id:=by
          rw [List.map_set];show(s.Vols.map Vol.Id).set k v.Id=_;apply CW;intro j;rw [Cv];split
          ·rename_i e;subst e;rw [Bw,A3 i,Bh,h2];rfl
          ·rfl
         rw [this];exact h.asc
        ·intro x hx;obtain⟨w,hw,rfl⟩:=AP.1 hx
         rcases d w hw with hw|rfl
         ·exact vF (h.root _ (AP.2 ⟨w,hw,rfl⟩))
         ·exact sF
        ·intro x hx y hy;obtain⟨w,hw,rfl⟩:=AP.1 hx;show y<max s.Next (r.Chunk+1)
         rcases d w hw with hw|rfl
         ·have o:=h.root _ (AP.2 ⟨w,hw,rfl⟩);have f:y∈Fd s.Arena.Knots w.Root:=by rw [<-pZ (X:=[BX.mk true (OE s.Arena.Knots v.Root t r.Chunk),BX.mk false (QY s.Arena.Knots v.Root t)]) h.ar o];exact hy
          have:=h.lt _ (AP.2 ⟨w,hw,rfl⟩) y f;omega
         ·have f:y∈(Fd s.Arena.Knots v.Root).set t r.Chunk:=by rw [<-qF (s:=t) (n:=r.Chunk) h.ar c (by omega)];exact hy
          rcases DB f with f|rfl
          ·have:=h.lt _ (AP.2 ⟨v,hm,rfl⟩) y f;omega
          ·omega
        ·show(Kd s.Arena.Knots v.Root t r.Chunk).length<=1000;unfold Kd;simp;omega
       have l:BZ (Store.mk (s.Vols.set k (Vol.mk v.Id ((s.Arena.Knots.length:Int)+1))) (Arena.mk (Kd s.Arena.Knots v.Root t r.Chunk)) (max s.Next (r.Chunk+1)))=mC (BZ s) r.Vol t r.Chunk:=by
        unfold BZ mC;simp only [Eq];apply CW;intro j;rw [Bh,Bh,Cv];by_cases e:k=j
        ·subst e;rw [A3 rfl,A3 i,h2];simp only [B4,Function.comp];rw [A3 h3,qF h.ar c (by omega)]
        ·rw [A5 e]
         cases hj:s.Vols[j]? with
         |none=>rfl
         |some w=>
          have p:=AO hj;have u:w.Id≠r.Vol:=by
           intro e2;have gi:(s.Vols.map Vol.Id)[k]?=some v.Id:=by rw [Bh,h2];rfl
           have gj:(s.Vols.map Vol.Id)[j]?=some w.Id:=by rw [Bh,hj];rfl
           rcases M8 k j with q|q|q
           ·have:=Pk h.asc q gi gj;omega
           ·exact e q
           ·have:=Pk h.asc q gj gi;omega
          simp only [B4,Function.comp];rw [A5 u];have:=pZ (X:=[BX.mk true (OE s.Arena.Knots v.Root t r.Chunk),BX.mk false (QY s.Arena.Knots v.Root t)]) h.ar (h.root _ (AP.2 ⟨w,p,rfl⟩));unfold Kd;rw [this]
       have z:∀b:Bool,b=decide (r.Chunk>=s.Next)->(bif b then((FO (Store.mk (s.Vols.set k (Vol.mk v.Id ((s.Arena.Knots.length:Int)+1))) (Arena.mk (Kd s.Arena.Knots v.Root t r.Chunk)) (ad r.Chunk 1))).bind fun v11=>some (v11,true))else((FO (Store.mk (s.Vols.set k (Vol.mk v.Id ((s.Arena.Knots.length:Int)+1))) (Arena.mk (Kd s.Arena.Knots v.Root t r.Chunk)) s.Next)).bind fun v12=>some (v12,true)))=(FO (Store.mk (s.Vols.set k (Vol.mk v.Id ((s.Arena.Knots.length:Int)+1))) (Arena.mk (Kd s.Arena.Knots v.Root t r.Chunk)) (max s.Next (r.Chunk+1)))).bind fun v=>some (v,true):=by
        intro b hb;have:=h.nx;by_cases e:r.Chunk>=s.Next
        ·rw [hb,Ad e,Ag,CE (by omega) (by omega),show max s.Next (r.Chunk+1)=r.Chunk+1 by omega]
        ·rw [hb,Af e,Ae,show max s.Next (r.Chunk+1)=s.Next by omega]
       rw [z _ rfl,Qk hR];refine⟨_,rfl,pV hR,?_,rfl⟩;rw [YT hR,l,B9]
end Go.TI
