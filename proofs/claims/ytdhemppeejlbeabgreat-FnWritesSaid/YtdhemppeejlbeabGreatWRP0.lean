/- What is planned for a drawn device is written. No condition; no program is in sight. -/
import Derived.Test.YtdhemppeejlbeabGreatWRD
set_option linter.unusedVariables false
set_option linter.unusedSimpArgs false
namespace Go.TI
open Go
def u32 (s:Int):Prop:=0<=s/\s<4294967296
theorem mC (s:Int) (hs:u32 s):∃v,Au (λs:Int×Int=>I5 s.1 s.2) (s,0)=some v/\Au (λs:Int×Int=>IG s.1 s.2) (s,0)=some v/\u32 v:=
 MS (body:=λs:Int×Int=>I5 s.1 s.2) (body':=λs:Int×Int=>IG s.1 s.2) (λ(s:Int) i=>(s,i)) 8 (λ_ s=>u32 s) u32
  (λs i hi hs=>by
   simp only [I5,IG];rw [Ad (by omega:(i:Int)<8),Ae,Ae,an1 hs.1 hs.2,<-ABc hs.1 hs.2];refine⟨rfl,.inl ?_⟩;have hw:u32 (IntKind.u32.wrap (Int.tdiv s 2)):=by rw [IntKind.wrap_u32];constructor<;>omega
   cases Int.tmod s 2==1
   ·exact⟨_,by rw [Ab,ad1 (by omega)],hw⟩
   exact⟨_,by rw [Ae,ad1 (by omega)],zI _ _⟩)
  (λs hs=>by
   simp only [I5,IG]
   exact⟨rfl,s,rfl,hs⟩) (s:=s) hs
theorem mB (s:Int) (t:ByteArray) (hs:u32 s) (ht:(L t).length<=9223372036854775806):∃v,Rt s t=some v/\R8 s t=some v/\u32 v:=by
 obtain⟨v,h1,h2,h3⟩:=MS (body:=λs:Int×Int=>JY t s.1 s.2) (body':=λs:Int×Int=>Kk t s.1 s.2) (λ(s:Int) i=>(s,i)) (L t).length (λ_ s=>u32 s) u32
  (λs i hi hs=>by
   obtain⟨v,h1,h2,h3⟩:=mC (xr s (IntKind.u32.wrap ((L t)[i]).toNat)) (zI _ _);simp only [JY,Kk];rw [Ad (by rw [BH];omega:(i:Int)<Fz t),Ae,Ae,EU t hi,Aa,Aa,h1,h2]
   exact⟨rfl,.inl ⟨v,by rw [Aa,ad1 (by omega)],h3⟩⟩)
  (λs hs=>by
   simp only [JY,Kk];rw [Af (by rw [BH];omega:¬((L t).length:Int)<Fz t),Ab,Ab]
   exact⟨rfl,s,rfl,hs⟩) (s:=s) hs
 unfold Rt R8;rw [h1,h2];exact⟨v,rfl,rfl,h3⟩
theorem iR (t:ByteArray) (ht:(L t).length<=9223372036854775806):∃v,Nu t=some v/\Wz t=some v/\u32 v:=by
 obtain⟨v,h1,h2,h3⟩:=mB 4294967295 t ⟨by omega,by omega⟩ ht;unfold Nu Wz;rw [h1,h2];exact⟨v,rfl,rfl,h3⟩
def four (v:Int):ByteArray:=EG [(IntKind.u8.wrap (Int.fdiv v (2^(min (24:Int).toNat IntKind.u32.bits)))),(IntKind.u8.wrap (Int.fdiv v (2^(min (16:Int).toNat IntKind.u32.bits)))),(IntKind.u8.wrap (Int.fdiv v (2^(min (8:Int).toNat IntKind.u32.bits)))),(IntKind.u8.wrap v)]
theorem TY (v:Int):(L (four v)).length=4:=by rw [four,Jw];rfl
theorem aR (t:ByteArray):Ip t=JZ t:=by
 unfold Ip JZ;by_cases h:(Fz t)>20000
 ·rw [Ad h];rfl
 rw [Af h,Ab,Ab];rw [BH]at h;obtain⟨v,h1,h2,_⟩:=iR t (by omega);rw [h1,h2];rfl
theorem RQ (t:ByteArray):(20000<(L t).length->JZ t=some (bs [],false))/\((L t).length<=20000->∃v,Nu t=some v/\JZ t=some (t++four v,true)):=by
 unfold JZ;rw [BH];refine⟨λh=>by rw [Ad (by omega),Ae],λh=>?_⟩;obtain⟨v,h1,h2,_⟩:=iR t (by omega);rw [Af (by omega),Ab,h1];refine⟨v,rfl,?_⟩;have:KC v=some (four v):=rfl;rw [Aa,this,Aa,FE _ _ (by rw [TY];omega),Aa]
theorem iO (t:ByteArray) (ht:(L t).length<=9223372036854775806):∃u ok,KD t=some (u,ok)/\Pq t=some (u,ok)/\(ok=true->(L u).length<=20000/\∃v,Nu u=some v/\t=u++four v)/\(ok=false->u=bs []):=by
 unfold KD Pq;have e4:sb (Fz t) 4=((L t).length:Int)-4:=by rw [BH,Cw (by omega) (by omega)]
 rw [e4];by_cases h4:(L t).length<4
 ·rw [Ad (by omega:((L t).length:Int)-4<0),Ad (by rw [BH];omega:Fz t<4)];exact⟨bs [],false,rfl,rfl,by simp,λ_=>rfl⟩
 rw [Af (by omega:¬((L t).length:Int)-4<0),Af (by rw [BH];omega:¬Fz t<4)];simp only [Ab];have en:((L t).length:Int)-4=(((L t).length-4:Nat):Int):=by omega
 rw [en,BH];have b:sub t 0 (((L t).length-4:Nat):Int)=some (t.extract 0 ((L t).length-4)):=EV t (i:=0) (by omega) (by omega);have a:sub t (((L t).length-4:Nat):Int) ((L t).length:Int)=some (t.extract ((L t).length-4) (L t).length):=EV t (by omega) (by omega);rw [b,a];simp only [Aa];have hu:(L (t.extract 0 ((L t).length-4))).length=(L t).length-4:=by rw [HM];simp
 obtain⟨k1,k2⟩:=RQ (t.extract 0 ((L t).length-4));rw [aR];by_cases hb:20000<(L t).length-4
 ·rw [Ad (by omega:(((L t).length-4:Nat):Int)>20000),k1 (by omega)];exact⟨bs [],false,rfl,rfl,by simp,λ_=>rfl⟩
 obtain⟨v,h1,h2⟩:=k2 (by omega);rw [Af (by omega:¬(((L t).length-4:Nat):Int)>20000),h1,h2];have h3:KC v=some (four v):=rfl;simp only [Ab,Aa,h3,Ai];have c:seq (t.extract ((L t).length-4) (L t).length) (four v)=seq (t.extract 0 ((L t).length-4)++four v) t:=by
  rw [Qm,Qm,DC,HM,HM,DR,A5,A5];have e1:List.take ((L t).length-((L t).length-4)) (List.drop ((L t).length-4) (L t))=(L t).drop ((L t).length-4):=AO (by simp);have e2:List.take ((L t).length-4-0) (List.drop 0 (L t))=(L t).take ((L t).length-4):=by simp
  rw [e1,e2];constructor
  ·intro h;rw [<-h,Bt]
  intro h;have h':(L t).take ((L t).length-4)++L (four v)=(L t).take ((L t).length-4)++(L t).drop ((L t).length-4):=by rw [Bt];exact h
  exact(List.append_cancel_left h').symm
 rw [c]
 cases hs:seq (t.extract 0 ((L t).length-4)++four v) t with
 |false=>exact⟨bs [],false,rfl,rfl,by simp,λ_=>rfl⟩
 |true=>
  rw [JT,A5]at hs;exact⟨_,true,rfl,rfl,λ_=>⟨by omega,v,h1,hs.symm⟩,by simp⟩
theorem IB (n:Nat) (h:n<=1099511627776):∃s,Hm (n:Int)=some s/\L s=Cy n:=by
 unfold Hm;obtain⟨m,o,h1,h2,h3,h4⟩:=aH (body:=λs:Int×List Int=>HY s.1 s.2) (λ_ _=>rfl) n [] (by simpa using h);rw [h1,Aa];have:IntKind.u8.wrap (m:Int)=m:=by rw [IntKind.wrap_u8];omega
 rw [this,Cn (by simp only [Ak,Bn]at h3⊢;omega),Aa];refine⟨_,rfl,?_⟩;rw [Jw,h4];simp
def zN (t:ByteArray) (at_:Int) (r:Int×Int×Bool):Prop:=
 (r.2.2=false/\r.1=0/\r.2.1=0)\/(r.2.2=true/\∃(a b n:Nat),at_=a/\r.2.1=b/\r.1=n/\a<b/\b<=(L t).length/\n<=1000000000/\Cy n=((L t).drop a).take (b-a))
theorem WP (l:List UInt8) (a k:Nat) (h:a+k<l.length):(l.drop a).take (k+1)=(l.drop a).take k++ [l[a+k]]:=by
 rw [Av (by simp;omega),SZ]
theorem cK (k:Nat) (h:k<5):(128:Nat)^k<=268435456:=by
 have:k<=4:=by omega
 calc 128^k<=128^4:=Nat.pow_le_pow_right (by omega) this
  _=268435456:=by decide
theorem Wi:∀ds:List UInt8,Ff ds<128^ds.length
 |[]=>by simp [Ff]
 |d::ds=>by
  have:=Wi ds;simp only [Ff,A0,Wd];omega
theorem wM (x k:Nat) (hx:x<128) (hk:k<5):shl .i64 (x:Int) (ml 7 (k:Int))=some ((x*128^k:Nat):Int):=by
 have h7:ml 7 (k:Int)=((7*k:Nat):Int):=by rw [On (by omega) (by omega)];omega
 unfold shl;rw [h7,Ay (by omega)];have e:(2:Int)^(min ((7*k:Nat):Int).toNat IntKind.i64.bits)=((128^k:Nat):Int):=by
  have hb:IntKind.i64.bits=64:=rfl;have h128:(128:Nat)^k=2^(7*k):=by rw [Nat.pow_mul]
  rw [hb,Ba,Nat.min_eq_left (by omega),h128]
  norm_cast
 rw [e];have hp:=cK k hk;have hm:x*128^k<=128*268435456:=Zl (by omega) hp;have ec:(x:Int)*((128^k:Nat):Int)=((x*128^k:Nat):Int):=by norm_cast
 rw [ec,NK (by omega) (by omega)]
theorem bC (x:Nat):Int.tmod (x:Int) 128=((x %128:Nat):Int):=rfl
theorem Iv (t:ByteArray) (at_:Int) (ht:(L t).length<=4611686018427387904) (p:oI at_):∃r,JA t at_=some r/\JJ t at_=some r/\zN t at_ r:=by
 have fails:∀(at_:Int),(at_<0\/((L t).length:Int)<=at_)->oI at_->JJ t at_=some (0,0,false):=by
  intro at_ h p;unfold JJ;rw [A7];simp only [Hk];rw [Ad (by omega:(0:Int)<5),Ae];by_cases h0:at_>=0
  ·rw [Ad h0,Ae,BH,Cw (by omega) (by omega),Af (by omega)];rfl
  rw [Af h0];rfl
 by_cases h5:0<=at_/\at_<(L t).length
 ·obtain⟨a,rfl⟩:=C1 h5.1;have ha:a<(L t).length:=by omega
  have h6:∀(B1:Int×Int×Int->Option ((Int×Int×Int)⊕((Unit)⊕((Int×Int×Bool))))) (B2:Int×Int->Option ((Int×Int)⊕((Unit)⊕((Int×Int×Bool))))),(∀n sc i,B1 (n,sc,i)=DP t (a:Int) n sc i)->(∀n k,B2 (n,k)=Hk t (a:Int) n k)->∀(m k:Nat),k+m=5->a+k<=(L t).length->(∀d∈((L t).drop a).take k,128<=d.toNat)->
    ∃r,(Au B1 (((Ff (((L t).drop a).take k):Nat):Int),((128^k:Nat):Int),((a+k:Nat):Int))=some r/\Au B2 (((Ff (((L t).drop a).take k):Nat):Int),(k:Int))=some r)/\(r= .inl ()\/∃q,r= .inr q/\zN t (a:Int) q):=by
   intro B1 B2 u v m
   induction m with
   |zero=>
    intro k hk h7 hd;have f:k=5:=by omega
    subst f;refine⟨.inl (),⟨?_,?_⟩,.inl rfl⟩
    ·rw [A7];simp only [u,DP];rw [CA (by omega) (by omega),Af (by omega:¬((a+5:Nat):Int)<(a:Int)+5)];cases decide (((a+5:Nat):Int)<Fz t)<;>rfl
    rw [A7];simp only [v,Hk];rw [Af (by omega:¬((5:Nat):Int)<5)];rfl
   |succ m ih=>
    intro k hk h7 hd;rw [A7,A7 B2];simp only [u,v,DP,Hk];have f:k<5:=by omega
    rw [CA (b:=5) (by omega) (by omega),Ad (by omega:((a+k:Nat):Int)<(a:Int)+5),Ad (by omega:(k:Int)<5),Ad (by omega:(a:Int)>=0),BH,Cw (by omega) (by omega)];by_cases w:a+k<(L t).length
    ·rw [Ad (by omega:((a+k:Nat):Int)<((L t).length:Int)),Ad (by omega:(a:Int)<((L t).length:Int)-k)];have eak:ad (a:Int) (k:Int)=((a+k:Nat):Int):=by rw [CA (by omega) (by omega)];omega
     simp only [Ae,Aa,EU t w,eak];have hx:=eM ((L t)[a+k]);have g:=WP (L t) a k w;have l:(((L t).drop a).take k).length=k:=by simp;omega
     have j:=Np (((L t).drop a).take k) [(L t)[a+k]];rw [<-g,l]at j;have h8:=Wi (((L t).drop a).take k);rw [l]at h8;have hp:=cK k f;generalize a4:(L t)[a+k]=x at hx g j;simp only [Ff,Nat.mul_zero,Gy]at j;have hw:IntKind.i64.wrap (x.toNat:Int)=x.toNat:=NK (by omega) (by omega);have a2:x.toNat %128*128^k<=127*268435456:=Zl (by omega) hp;have emul:ml ((x.toNat %128:Nat):Int) ((128^k:Nat):Int)=((x.toNat %128*128^k:Nat):Int):=by
      have ec:((x.toNat %128:Nat):Int)*((128^k:Nat):Int)=((x.toNat %128*128^k:Nat):Int):=by norm_cast
      rw [On (by rw [ec];omega) (by rw [ec];omega),ec]
     have enew:ad (((Ff (((L t).drop a).take k):Nat)):Int) ((x.toNat %128*128^k:Nat):Int)=((Ff (((L t).drop a).take (k+1)):Nat):Int):=by
      rw [CA (by omega) (by omega),j,mJ (128^k)];omega
     rw [hw,bC,wM _ k (by omega) f];simp only [Aa,emul,enew];by_cases o:x.toNat<128
     ·rw [Ad (by omega:(x.toNat:Int)<128),Af (by omega:¬(x.toNat:Int)>=128)];simp only [Ae,Ab];have ek1:ad ((a+k:Nat):Int) 1=((a+k+1:Nat):Int):=ad1 (by omega);have c:=aG (((L t).drop a).take k) x hd o;rw [<-g]at c;have h9:(((L t).drop a).take k≠ [])↔0<k:=by
       rw [<-Iz,l]
      rw [h9]at c;have y:sub t (a:Int) ((a+k+1:Nat):Int)=some (t.extract a (a+k+1)):=EV t (by omega) (by omega);rw [ek1,y];by_cases a3:Ff (((L t).drop a).take (k+1))>1000000000
      ·rw [Ad (by omega:((Ff (((L t).drop a).take (k+1)):Nat):Int)>1000000000)];refine⟨.inr (0,0,false),⟨rfl,?_⟩,.inr ⟨_,rfl,.inl ⟨rfl,rfl,rfl⟩⟩⟩;cases(x.toNat:Int)==0
       ·rfl
       cases decide ((k:Int)>0)<;>rfl
      rw [Af (by omega:¬((Ff (((L t).drop a).take (k+1)):Nat):Int)>1000000000)];obtain⟨s,a0,a1⟩:=IB (Ff (((L t).drop a).take (k+1))) (by omega);simp only [Ab,Aa,a0];have z:seq s (t.extract a (a+k+1))=decide (¬(x.toNat=0/\0<k)):=by
       rw [Qm,a1,HM,show a+k+1-a=k+1 by omega,DR,A5,A5];exact c
      rw [z];by_cases hz:x.toNat=0/\0<k
      ·rw [Af (λe=>e hz)];refine⟨.inr (0,0,false),⟨rfl,?_⟩,.inr ⟨_,rfl,.inl ⟨rfl,rfl,rfl⟩⟩⟩;have:((x.toNat:Int)==0)=true:=by rw [hz.1];rfl
       rw [this,Ad (by omega:(k:Int)>0)];rfl
      rw [Ad hz];refine⟨.inr (((Ff (((L t).drop a).take (k+1)):Nat):Int),((a+k+1:Nat):Int),true),⟨rfl,?_⟩,.inr ⟨_,rfl,.inr ⟨rfl,a,a+k+1,_,rfl,rfl,rfl,by omega,by omega,by omega,?_⟩⟩⟩
      ·by_cases h4:x.toNat=0
       ·have:((x.toNat:Int)==0)=true:=by rw [h4];rfl
        rw [this,Af (by omega:¬(k:Int)>0)];rfl
       have:((x.toNat:Int)==0)=false:=by simpa using h4
       rw [this];rfl
      rw [show a+k+1-a=k+1 by omega];exact c.2 hz
     rw [Af (by omega:¬(x.toNat:Int)<128),Ad (by omega:(x.toNat:Int)>=128)];simp only [Ae,Ab];have e1:ml ((128^k:Nat):Int) 128=((128^(k+1):Nat):Int):=by
      rw [On (by omega) (by omega),Wd];norm_cast
     have e2:ad ((a+k:Nat):Int) 1=((a+(k+1):Nat):Int):=ad1 (by omega);have e3:ad (k:Int) 1=((k+1:Nat):Int):=ad1 (by omega);rw [e1,e2,e3]
     exact ih (k+1) (by omega) (by omega) (by
      rw [g];intro d hd'
      rcases Aj.1 hd' with hd'|hd'
      ·exact hd d hd'
      simp at hd';subst hd';omega)
    rw [Af (by omega:¬((a+k:Nat):Int)<((L t).length:Int)),Af (by omega:¬(a:Int)<((L t).length:Int)-k)];exact⟨.inl (),⟨rfl,rfl⟩,.inl rfl⟩
  obtain⟨r,⟨h1,h2⟩,h3⟩:=h6 (λs=>DP t (a:Int) s.1 s.2.1 s.2.2) (λs=>Hk t (a:Int) s.1 s.2) (λ_ _ _=>rfl) (λ_ _=>rfl) 5 0 rfl (by omega) (by simp);unfold JA JJ;have hw:BX (a:Int) 0 (Fz t)=some true:=by
   unfold BX;rw [Ad (by omega:(a:Int)>=0),Ae,BH,Ad (by omega)]
  rw [hw];simp only [Aa,Ai,Ab];simp only [IN,Ff,Nat.pow_zero,Gy]at h1 h2;rw [show((0:Nat):Int)=0 from rfl,show((1:Nat):Int)=1 from rfl]at h1;rw [show((0:Nat):Int)=0 from rfl]at h2;rw [h1,h2]
  rcases h3 with rfl|⟨q,rfl,h3⟩
  ·exact⟨_,rfl,rfl,.inl ⟨rfl,rfl,rfl⟩⟩
  exact⟨q,rfl,rfl,h3⟩
 have hf:=fails at_ (by omega) p;refine⟨(0,0,false),?_,hf,.inl ⟨rfl,rfl,rfl⟩⟩;unfold JA;by_cases h0:0<=at_/\at_<=(L t).length
 ·have hw:BX at_ 0 (Fz t)=some true:=by
   unfold BX;rw [Ad (by omega:at_>=0),Ae,BH,Ad (by omega)]
  rw [hw];simp only [Aa,Ai,Ab];rw [A7];simp only [DP];rw [Af (by rw [BH];omega:¬at_<Fz t)];rfl
 have hw:BX at_ 0 (Fz t)=some false:=by
  unfold BX;by_cases h1:at_>=0
  ·rw [Ad h1,Ae,BH,Af (by omega)]
  rw [Af h1,Ab]
 rw [hw];rfl
theorem XZ:HF=BX:=rfl
variable {r n x:Int} {R:List Int} {i s j:Nat} {α γ:Type} {p:Nat->Bool} {l:List α}
theorem Dd {i:Int} {x:α} (h:gi l i=some x):0<=i/\l[i.toNat]?=some x:=by
 unfold gi at h;split at h
 ·exact⟨by assumption,h⟩
 cases h
theorem P5:Mx=FN:=by
 have h2:Ml=Eg:=by
  funext x y;unfold Ml Eg
  cases decide (y<ln x.Leaves)with
  |false=>rfl
  |true=>
   simp only [Ae]
   cases gi x.Leaves y with
   |none=>rfl
   |some z=>rfl
 funext f;unfold Mx FN;have:Mm f=Eh f:=by
  funext i;unfold Mm Eh;rw [h2];rfl
 rw [this];rfl
def LN (f:Flash):Prop:=f.Blocks.length<=1048576/\∀b∈f.Blocks,b.Leaves.length<=1048576
theorem PO (x a b:Int):BX x a b=some (decide (a<=x)&&decide (x<=b)):=by
 unfold BX;by_cases h:x>=a
 ·rw [Ad h,Ae,CC]
 rw [Af h,Ab,Bool.false_and]
theorem xZ (x:Leaf):∃v,Ms x=some v:=by
 unfold Ms;cases x.Is==0
 ·simp only [Ab];cases x.Is==1
  ·simp only [Ab];cases x.Is==2<;>exact⟨_,rfl⟩
  simp only [Ae,PO,Aa];exact⟨_,rfl⟩
 exact⟨_,rfl⟩
theorem ST (f:Flash) (h:LN f):∃v,FN f=some v/\(v=true->f.Blocks.length<=10/\∀b∈f.Blocks,b.Leaves.length=4):=by
 have a:=Bg (body:=λs:Int=>Eh f s) (λ(_:Unit) i=>i) f.Blocks.length (λi _=>∀j b,j<i->f.Blocks[j]?=some b->b.Leaves.length=4) (λr=>r= .inr false\/r= .inl ()/\∀b∈f.Blocks,b.Leaves.length=4)
  (λs i hi hs=>by
   obtain⟨x,hx⟩:∃x,f.Blocks[i]?=some x:=⟨_,Ac hi⟩;have hM:=h.1;have hL:=h.2 x (A3 hx);simp only [Eh,AC,Ad hi,Ae,A9,hx,Aa,PO];by_cases h4:x.Leaves.length=4
   ·have e1:(ln x.Leaves !=4)=false:=by simp [ln,h4]
    simp only [e1,Ab,Aa]
    cases hw:(decide (0<=x.Wear)&&decide (x.Wear<=1000000000))with
    |false=>exact .inr ⟨_,rfl,.inl rfl⟩
    |true=>
     simp only [Ai,Ab];obtain⟨r,h5,h6⟩:=Bg (body:=λs:Int=>Eg x s) (λ(_:Unit) i=>i) x.Leaves.length (λ_ _=>True) (λr=>r= .inl ()\/r= .inr (.inr (.inr false)))
      (λs k hk _=>by
       obtain⟨y,hy⟩:∃y,x.Leaves[k]?=some y:=⟨_,Ac hk⟩;obtain⟨v,hv⟩:=xZ y;simp only [Eg,AC,Ad hk,Ae,A9,hy,Aa,hv];have fin:∀j:Bool,(∃s':Unit,(bif j then some (.inr (.inr (.inr (.inr false))))else some (.inl (ad (k:Int) 1)):Option (Int⊕(Unit⊕(Int⊕(Unit⊕Bool)))))=some (.inl (((k+1:Nat)):Int))/\True)\/∃b,(bif j then some (.inr (.inr (.inr (.inr false))))else some (.inl (ad (k:Int) 1)):Option (Int⊕(Unit⊕(Int⊕(Unit⊕Bool)))))=some (.inr b)/\(b= .inl ()\/b= .inr (.inr (.inr false))):=by
        intro j
        cases j with
        |true=>exact .inr ⟨_,rfl,.inr rfl⟩
        |false=>exact .inl ⟨(),by rw [Ab,ad1 (by omega)],trivial⟩
       cases v with
       |false=>exact fin true
       |true=>
        simp only [Ai,Ab];by_cases c:0<k
        ·rw [Ad (by omega:(k:Int)>0),Ae,Cw (by omega) (by omega),K2 (by omega) (by omega),Aa];cases(x.Leaves[((k:Int)-1).toNat]'(by omega)).Is==0
         ·exact fin false
         exact fin (y.Is !=0)
        rw [Af (by omega:¬(k:Int)>0)]
        exact fin false)
      (λs _=>⟨_,by simp only [Eg,AC,Ao,Aq,Ab],.inl rfl⟩) (s:=()) trivial
     rw [h5,Aa]
     rcases h6 with rfl|rfl
     ·refine .inl ⟨(),by rw [By,ad1 (by omega)],?_⟩;intro j b hj hb;by_cases e:j=i
      ·subst e;rw [hx]at hb;injection hb with hb;rw [<-hb];exact h4
      exact hs j b (by omega) hb
     exact .inr ⟨_,rfl,.inl rfl⟩
   have e1:(ln x.Leaves !=4)=true:=by simp [ln];omega
   simp only [e1,Ae,Aa]
   exact .inr ⟨_,rfl,.inl rfl⟩)
  (λs hs=>⟨_,by simp only [Eh,AC,Ao,Aq,Ab],.inr ⟨rfl,λb hb=>by
   obtain⟨j,hj,e⟩:=AI hb
   exact hs j b hj (by rw [<-e];exact Ac hj)⟩⟩) (s:=()) (λj b hj=>absurd hj (by omega))
 obtain⟨r,h1,h2⟩:=a;unfold FN;rw [h1,Aa]
 rcases h2 with rfl|⟨rfl,h2⟩
 ·exact⟨false,rfl,by simp⟩
 simp only [By,PO,Aa];refine⟨_,rfl,λe=>⟨?_,h2⟩⟩;rw [Al,A5,A5,BG]at e;omega
theorem RR (p:Page):∃v,Kc p=some v/\QS p=some v/\(v=true->(p.Kind=1\/p.Kind=2)/\(1<=p.Seq/\p.Seq<=1000000000)/\(1<=p.Tx/\p.Tx<=1000000000)/\(1<=p.Count/\p.Count<=9)/\(0<=p.Part/\p.Part<p.Count)/\Fz p.Text<=90):=by
 unfold Kc QS;rw [XZ];simp only [PO,Aa];by_cases h1:1<=p.Seq/\p.Seq<=1000000000
 ·by_cases h2:1<=p.Tx/\p.Tx<=1000000000
  ·by_cases h3:1<=p.Count/\p.Count<=9
   ·have e:sb p.Count 1=p.Count-1:=Cw (by omega) (by omega);rw [e];by_cases h4:0<=p.Part/\p.Part<=p.Count-1
    ·by_cases h5:Fz p.Text>90
     ·refine⟨false,?_,?_,by simp⟩
      ·cases hk:(decide (1<=p.Kind)&&decide (p.Kind<=2))<;>simp [h1,h2,h3,h4,h5]
      simp [h1,h2,h3,h4,h5]
     by_cases k2:p.Kind=2
     ·exact⟨true,by simp [h1,h2,h3,h4,h5,k2],by simp [h1,h2,h3,h4,h5,k2],λ_=>⟨.inr k2,h1,h2,h3,⟨h4.1,by omega⟩,by omega⟩⟩
     by_cases k1:p.Kind=1
     ·exact⟨p.Count==1,by simp [h1,h2,h3,h4,h5,k1],by simp [h1,h2,h3,h4,h5,k1],λ_=>⟨.inl k1,h1,h2,h3,⟨h4.1,by omega⟩,by omega⟩⟩
     have hk:(decide (1<=p.Kind)&&decide (p.Kind<=2))=false:=by
      rw [Em,AY,AY];omega
     have e1:(p.Kind==1)=false:=by simpa using k1
     have e2:(p.Kind==2)=false:=by simpa using k2
     exact⟨false,by simp [hk],by simp [h1,h2,h3,h4,h5,e1,e2],by simp⟩
    have e4:(decide (0<=p.Part)&&decide (p.Part<=p.Count-1))=false:=by
     rw [Em,AY,AY];omega
    refine⟨false,?_,?_,by simp⟩
    ·cases hk:(decide (1<=p.Kind)&&decide (p.Kind<=2))<;>simp [h1,h2,h3,e4]
    simp [h1,h2,h3,e4]
   have e3:(decide (1<=p.Count)&&decide (p.Count<=9))=false:=by
    rw [Em,AY,AY];omega
   refine⟨false,?_,?_,by simp⟩
   ·cases hk:(decide (1<=p.Kind)&&decide (p.Kind<=2))<;>simp [h1,h2,e3]
   simp [h1,h2,e3]
  have e2:(decide (1<=p.Tx)&&decide (p.Tx<=1000000000))=false:=by
   rw [Em,AY,AY];omega
  refine⟨false,?_,?_,by simp⟩
  ·cases hk:(decide (1<=p.Kind)&&decide (p.Kind<=2))<;>simp [h1,e2]
  simp [h1,e2]
 have e1:(decide (1<=p.Seq)&&decide (p.Seq<=1000000000))=false:=by
  rw [Em,AY,AY];omega
 refine⟨false,?_,?_,by simp⟩
 ·cases hk:(decide (1<=p.Kind)&&decide (p.Kind<=2))<;>simp [e1]
 simp [e1]
def ZR:Page:=Page.mk 0 0 0 0 0 (bs [])
theorem Hj (u:ByteArray) (a:Int) (hu:(L u).length<=20000) (ha:oI a):Du (E0.mk u a true)=some (0,E0.mk u a true):=by
 obtain⟨r,h1,_,_⟩:=Iv u a (by omega) ha;unfold Du;simp only [h1,Aa,Ae]
theorem JF {r:Int×Int×Bool} (u:ByteArray) (a:Int) (hu:(L u).length<=20000) (h:JA u a=some r):Du (E0.mk u a false)=some (bif r.2.2 then(r.1,E0.mk u r.2.1 false)else(0,E0.mk u a true)):=by
 unfold Du;simp only [h,Aa,Ab];cases r.2.2<;>rfl
theorem PA {a b:Nat} (l:List UInt8) (h:a<=b):l.drop a=(l.drop a).take (b-a)++l.drop b:=by
 have:=(Bt (b-a) (l.drop a)).symm;rw [CJ,show a+(b-a)=b by omega]at this;exact this
theorem VP (p:Page) (u:ByteArray) (k:UInt8) (n1 n2 n3 n4:Nat) (hp:Kc p=some true) (hk:p.Kind=(k.toNat:Int)) (h1:p.Seq=n1) (h2:p.Tx=n2) (h3:p.Part=n3) (h4:p.Count=n4) (b1:n1<=1000000000) (b2:n2<=1000000000) (b3:n3<=1000000000) (b4:n4<=1000000000) (hu:(L u).length<=20000) (e:L u=[k]++Cy n1++Cy n2++Cy n3++Cy n4++L p.Text):Ez p=JZ u:=by
 obtain⟨s1,q1,r1⟩:=IB n1 (by omega);obtain⟨s2,q2,r2⟩:=IB n2 (by omega);obtain⟨s3,q3,r3⟩:=IB n3 (by omega);obtain⟨s4,q4,r4⟩:=IB n4 (by omega);have hl:=BR List.length e;simp only [Ag,Ak]at hl;have hb:J4 p.Kind=some (EG [IntKind.u8.wrap p.Kind]):=rfl;have a:L (EG [IntKind.u8.wrap p.Kind])=[k]:=by
  rw [Jw,hk,IntKind.wrap_u8];have:=eM k;have e2:((k.toNat:Int) %256).toNat=k.toNat:=by omega
  simp only [Cb,mK,e2,UInt8.ofNat_toNat]
 unfold Ez;rw [hp];simp only [Aa,Ai,Ab,hb,h1,h2,h3,h4,q1,q2,q3,q4];rw [FE _ _ (by rw [a,r1];simp only [Ak];omega),Aa];rw [FE _ _ (by rw [DC,a,r1,r2];simp only [Ag,Ak];omega),Aa];rw [FE _ _ (by rw [DC,DC,a,r1,r2,r3];simp only [Ag,Ak];omega),Aa];rw [FE _ _ (by rw [DC,DC,DC,a,r1,r2,r3,r4];simp only [Ag,Ak];omega),Aa];rw [FE _ _ (by rw [DC,DC,DC,DC,a,r1,r2,r3,r4];simp only [Ag,Ak];omega),Aa];have:EG [IntKind.u8.wrap p.Kind]++s1++s2++s3++s4++p.Text=u:=by
  apply Iw;rw [DC,DC,DC,DC,DC,a,r1,r2,r3,r4,e]
 rw [this]
 cases JZ u with
 |none=>rfl
 |some v=>rfl
theorem JN (t:ByteArray) (ht:(L t).length<=9223372036854775806):∃p ok,Fq t=some (p,ok)/\Pw t=some (p,ok)/\(ok=false->p=ZR)/\(ok=true->Kc p=some true):=by
 obtain⟨u,uok,k,m,n,o⟩:=iO t ht;unfold Fq Pw;rw [k,m];simp only [Aa];have o1:oI 1:=⟨by omega,by omega⟩
 cases uok with
 |false=>
  have:=o rfl;subst this;have hz:(L (bs [])).length<=20000:=by rw [DV];simp
  simp only [AG,Ae,Aa,Hj _ _ hz o1];exact⟨ZR,false,rfl,rfl,λ_=>rfl,by simp⟩
 |true=>
  obtain⟨f,v,hv,q⟩:=n rfl;simp only [Ai,Ab,Aa];by_cases he:(L u).length<1
  ·have h:seq u (bs [])=true:=by
    rw [Qm,A5,DV];exact AB (by omega)
   rw [Ad (by rw [BH];omega:Fz u<1),h];simp only [Ae,Hj _ _ f o1,Aa];exact⟨ZR,false,rfl,rfl,λ_=>rfl,by simp⟩
  have h:seq u (bs [])=false:=by
   rw [Qm,AY,DV];intro e;rw [e]at he;simp at he
  rw [Af (by rw [BH];omega:¬Fz u<1),h];simp only [Ab];have four_:∀(B:Int×Int×Int×Int×Int×Int->Option ((Int×Int×Int×Int×Int×Int)⊕((Int×Int×Int×Int×Int)⊕((Page×Bool))))),(∀x y a b c d,B (x,y,a,b,c,d)=ED (u,true) x y a b c d)->
    ∃(a:Int) (m1 m2 m3 m4:Int) (bad:Bool),(∃c1 c2 c3,Du (E0.mk u 1 false)=some (m1,c1)/\Du c1=some (m2,c2)/\Du c2=some (m3,c3)/\Du c3=some (m4,E0.mk u a bad))/\
     Au B (1,0,0,0,0,0)=some (bif bad then .inr (ZR,false)else .inl (a,m1,m2,m3,m4))/\(bad=false->∃(a1 a2 a3 a4 n1 n2 n3 n4:Nat),m1=n1/\m2=n2/\m3=n3/\m4=n4/\a=a4/\1<a1/\a1<a2/\a2<a3/\a3<a4/\a4<=(L u).length/\n1<=1000000000/\n2<=1000000000/\n3<=1000000000/\n4<=1000000000/\
      Cy n1=((L u).drop 1).take (a1-1)/\Cy n2=((L u).drop a1).take (a2-a1)/\Cy n3=((L u).drop a2).take (a3-a2)/\Cy n4=((L u).drop a3).take (a4-a3)):=by
   intro B hB;obtain⟨r1,p1,q1,w1⟩:=Iv u 1 (by omega) o1;have g1:=JF u 1 f p1;rw [A7,hB];unfold ED;rw [Ad (by omega:(0:Int)<4),Ae,q1,Aa]
   rcases w1 with⟨w1,w2,w3⟩|⟨w1,a0',a1,n1,z0,z1,z2,z3,z4,z5,z6⟩
   ·rw [w1]at g1⊢;exact⟨1,0,0,0,0,true,⟨_,_,_,g1,Hj u 1 f o1,Hj u 1 f o1,Hj u 1 f o1⟩,rfl,by simp⟩
   have ea0:a0'=1:=by omega
   subst ea0;rw [w1]at g1⊢;have x1:oI r1.2.1:=⟨by omega,by omega⟩;simp only [Ai,Ab,Ae]at g1⊢;rw [show((0:Int)==0)=true from rfl,Ae,show ad 0 1=1 from ad1 (i:=0) (by omega)];simp only;obtain⟨r2,p2,q2,y1⟩:=Iv u r1.2.1 (by omega) x1;have g2:=JF u r1.2.1 f p2;rw [A7,hB];unfold ED;rw [Ad (by omega:(1:Int)<4),Ae,q2,Aa]
   rcases y1 with⟨y1,_,_⟩|⟨y1,b0,a2,n2,y2,y3,y4,y5,y6,y7,y8⟩
   ·rw [y1]at g2⊢;exact⟨r1.2.1,r1.1,0,0,0,true,⟨_,_,_,g1,g2,Hj u _ f x1,Hj u _ f x1⟩,rfl,by simp⟩
   have eb:b0=a1:=by omega
   subst eb;rw [y1]at g2⊢;have x2:oI r2.2.1:=⟨by omega,by omega⟩;simp only [Ai,Ab,Ae]at g2⊢;rw [show((1:Int)==0)=false from rfl,Ab,show((1:Int)==1)=true from rfl,Ae,show ad 1 1=2 from ad1 (i:=1) (by omega)];simp only;obtain⟨r3,p3,q3,k1⟩:=Iv u r2.2.1 (by omega) x2;have g3:=JF u r2.2.1 f p3;rw [A7,hB];unfold ED;rw [Ad (by omega:(2:Int)<4),Ae,q3,Aa]
   rcases k1 with⟨k1,_,_⟩|⟨k1,c0,a3,n3,k2,k3,k4,k5,k6,k7,k8⟩
   ·rw [k1]at g3⊢;exact⟨r2.2.1,r1.1,r2.1,0,0,true,⟨_,_,_,g1,g2,g3,Hj u _ f x2⟩,rfl,by simp⟩
   have ec:c0=a2:=by omega
   subst ec;rw [k1]at g3⊢;have x3:oI r3.2.1:=⟨by omega,by omega⟩;simp only [Ai,Ab,Ae]at g3⊢;rw [show((2:Int)==0)=false from rfl,Ab,show((2:Int)==1)=false from rfl,Ab,show((2:Int)==2)=true from rfl,Ae,show ad 2 1=3 from ad1 (i:=2) (by omega)];simp only;obtain⟨r4,p4,q4,l1⟩:=Iv u r3.2.1 (by omega) x3;have g4:=JF u r3.2.1 f p4;rw [A7,hB];unfold ED;rw [Ad (by omega:(3:Int)<4),Ae,q4,Aa]
   rcases l1 with⟨l1,_,_⟩|⟨l1,d0,a4,n4,l2,l3,l4,l5,l6,l7,l8⟩
   ·rw [l1]at g4⊢;exact⟨r3.2.1,r1.1,r2.1,r3.1,0,true,⟨_,_,_,g1,g2,g3,g4⟩,rfl,by simp⟩
   have ed:d0=a3:=by omega
   subst ed;rw [l1]at g4⊢;simp only [Ai,Ab,Ae]at g4⊢;rw [show((3:Int)==0)=false from rfl,Ab,show((3:Int)==1)=false from rfl,Ab,show((3:Int)==2)=false from rfl,Ab,show((3:Int)==3)=true from rfl,Ae,show ad 3 1=4 from ad1 (i:=3) (by omega)];simp only;rw [A7,hB];unfold ED;rw [Af (by omega:¬(4:Int)<4),Ab];exact⟨r4.2.1,r1.1,r2.1,r3.1,r4.1,false,⟨_,_,_,g1,g2,g3,g4⟩,rfl,λ_=>⟨b0,c0,d0,a4,n1,n2,n3,n4,z2,y4,k4,l4,l3,z3,y5,k5,l5,l6,z5,y7,k7,l7,z6,y8,k8,l8⟩⟩
  obtain⟨a,m1,m2,m3,m4,bad,⟨c1,c2,c3,f1,f2,f3,f4⟩,f5,f6⟩:=four_ (λs:Int×Int×Int×Int×Int×Int=>ED (u,true) s.1 s.2.1 s.2.2.1 s.2.2.2.1 s.2.2.2.2.1 s.2.2.2.2.2) (λ_ _ _ _ _ _=>rfl);rw [f5];simp only [f1,f2,f3,f4,Aa]
  cases bad with
  |true=>exact⟨ZR,false,rfl,rfl,λ_=>rfl,by simp⟩
  |false=>
   obtain⟨a1,a2,a3,a4,n1,n2,n3,n4,rfl,rfl,rfl,rfl,rfl,i1,i2,i3,i4,i5,j1,j2,j3,j4,s1,s2,s3,s4⟩:=f6 rfl;simp only [Ab,Aa,By];have r:sx u 0=some (((L u)[0]'(by omega)).toNat:Int):=EU u (i:=0) (by omega);have j:sub u (a4:Int) (Fz u)=some (u.extract a4 (L u).length):=by rw [BH];exact EV u (by omega) (by omega)
   rw [r,j];simp only [Aa];have hk:=eM ((L u)[0]'(by omega));have hw:IntKind.i64.wrap (((L u)[0]'(by omega)).toNat:Int)=((L u)[0]'(by omega)).toNat:=NK (by omega) (by omega);rw [hw];obtain⟨po,po1,po2,_⟩:=RR (Page.mk (((L u)[0]'(by omega)).toNat:Int) n1 n2 n3 n4 (u.extract a4 (L u).length));rw [po2];simp only [Aa]
   cases po with
   |false=>
    have:Ez (Page.mk (((L u)[0]'(by omega)).toNat:Int) n1 n2 n3 n4 (u.extract a4 (L u).length))=some (bs [],false):=by
     unfold Ez;rw [po1];rfl
    rw [this];exact⟨ZR,false,rfl,rfl,λ_=>rfl,by simp⟩
   |true=>
    have hT:L (u.extract a4 (L u).length)=(L u).drop a4:=by
     rw [HM];exact AO (by simp)
    have g:L u=[(L u)[0]'(by omega)]++Cy n1++Cy n2++Cy n3++Cy n4++L (u.extract a4 (L u).length):=by
     rw [hT,s1,s2,s3,s4];have h0:L u=[(L u)[0]'(by omega)]++(L u).drop 1:=by
      have:=Bj (l:=L u) (i:=0) (by omega);simpa using this
     have d1:=PA (L u) (a:=1) (b:=a1) (by omega);have d2:=PA (L u) (a:=a1) (b:=a2) (by omega);have d3:=PA (L u) (a:=a2) (b:=a3) (by omega);have d4:=PA (L u) (a:=a3) (b:=a4) (by omega);simp only [Ap];rw [<-d4,<-d3,<-d2,<-d1];exact h0
    rw [VP _ u ((L u)[0]'(by omega)) n1 n2 n3 n4 po1 rfl rfl rfl rfl rfl j1 j2 j3 j4 f g];obtain⟨v',hv',hs'⟩:=(RQ u).2 f;rw [hv]at hv'
    injection hv' with hv'
    subst hv';rw [hs',Aa];have:seq (u++four v) t=true:=by rw [JT,A5];exact q.symm
    simp only [Ai,Ab,Aa,this];exact⟨_,true,rfl,rfl,by simp,λ_=>po1⟩
def nl (l:List Block):Nat:=(l.map λb=>b.Leaves.length).sum
def QJ (f:Flash) (y:A8):Prop:=∃b x,gi f.Blocks y.Block=some b/\gi b.Leaves y.Leaf=some x/\(x.Is==1)=true/\Fq x.Text=some (y.Page,true)
theorem VO {k:Nat} {b:Block} {x:Leaf} (f:Flash) (hf:LN f) (hb:f.Blocks[i]?=some b) (hx:b.Leaves[k]?=some x):OP f i k=some (bif x.Is==1 then(x.Text,true)else(bs [],false)):=by
 have h1:=(Ah.1 hb).1;have h2:=(Ah.1 hx).1;have h3:=hf.1;have h4:=hf.2 b (A3 hb);unfold OP;rw [Cw (by rw [BG];omega) (by rw [BG];omega),PO,BG,Ad (by omega:(0:Int)<=(i:Int)),Ad (by omega:(i:Int)<=(f.Blocks.length:Int)-1)];simp only [Aa,HN,Ai,Ab,A9,hb];rw [Cw (by rw [BG];omega) (by rw [BG];omega),PO,BG,Ad (by omega:(0:Int)<=(k:Int)),Ad (by omega:(k:Int)<=(b.Leaves.length:Int)-1)];simp only [Aa,HN,Ai,Ab,hx]
 cases h:x.Is==1 with
 |true=>
  have:(x.Is !=1)=false:=by simp [bne,h]
  simp [this]
 |false=>
  have:(x.Is !=1)=true:=by simp [bne,h]
  simp [this]
theorem SM (f:Flash) (hf:LN f) (hT:∀b∈f.Blocks,∀x∈b.Leaves,(L x.Text).length<=1048576) (hn:nl f.Blocks<=1048576):
  ∃X,Au (λs:List A8×Int=>EA f s.1 s.2) ([],0)=some X/\Au (λs:Int×List A8=>IK f s.1 s.2) (0,[])=some X/\X.length<=nl f.Blocks/\∀y∈X,QJ f y:=by
 refine QG (body:=λs:List A8×Int=>EA f s.1 s.2) (body':=λs:Int×List A8=>IK f s.1 s.2) (λs i=>(s,i)) (λs i=>(i,s)) f.Blocks.length (λi a=>a.length<=((f.Blocks.take i).map λb=>b.Leaves.length).sum/\∀y∈a,QJ f y) (λX=>X.length<=nl f.Blocks/\∀y∈X,QJ f y) ?_ ?_ (s:=[]) ⟨by simp,by simp⟩
 ·intro a i hi ⟨c,d⟩;have hb:f.Blocks[i]?=some f.Blocks[i]:=Ac hi;have hm:f.Blocks[i]∈f.Blocks:=AE _;have j:=Qf (λb:Block=>b.Leaves.length) f.Blocks i hi;have l:=Nq (λb:Block=>b.Leaves.length) f.Blocks (i+1);unfold nl at hn;have m:=hf.1;refine .inl ?_;simp only [EA,IK,AC,Ad hi,Ae,A9,hb,Aa];obtain⟨u,q1,q2,q3⟩:=QG (body:=λs:List A8×Int=>EX f (i:Int) s.1 s.2) (body':=λs:Int×List A8=>Kl (i:Int) f.Blocks[i] s.1 s.2) (λs i=>(s,i)) (λs i=>(i,s)) f.Blocks[i].Leaves.length (λk u=>u.length<=a.length+k/\∀y∈u,QJ f y) (λu=>u.length<=a.length+f.Blocks[i].Leaves.length/\∀y∈u,QJ f y)
   (λu k hk hu=>by
    have hx:f.Blocks[i].Leaves[k]?=some f.Blocks[i].Leaves[k]:=Ac hk;have g:f.Blocks[i].Leaves[k]∈f.Blocks[i].Leaves:=AE _;have n:=hf.2 _ hm
    have h:∀y:A8,ap 72 u [y]=some (u++ [y]):=λy=>Cn (by simp only [Ak];omega)
    refine .inl ?_;obtain⟨p,ok,r1,r2,r3,r4⟩:=JN f.Blocks[i].Leaves[k].Text (by have:=hT _ hm _ g;omega);simp only [EX,Kl,AC,Ad hk,Ae,A9,hb,hx,Aa,VO f hf hb hx,r2,h];have o:=hu.1
    cases e:f.Blocks[i].Leaves[k].Is==1 with
    |false=>
     obtain⟨p',ok',t1,_⟩:=JN (bs []) (by rw [DV];simp);simp only [Ab,Aa,t1];refine⟨u,by rw [ad1 (by omega)],by cases ok<;>(simp only [Ae,Ab,Aa];rw [ad1 (by omega)]),by omega,hu.2⟩
    |true=>
     simp only [Ae,Aa,r1]
     cases ok with
     |false=>exact⟨u,by simp only [Ab];rw [ad1 (by omega)],by simp only [Ab,Aa];rw [ad1 (by omega)],by omega,hu.2⟩
     |true=>
      refine⟨u++ [A8.mk i k p],by simp only [Ae];rw [ad1 (by omega)],by simp only [Ae,Aa];rw [ad1 (by omega)],by simp only [Ag,Ak];omega,λy hy=>?_⟩
      rcases Aj.1 hy with hy|hy
      ·exact hu.2 y hy
      rw [Aw]at hy;subst hy
      exact⟨_,_,by simp only [A9];exact hb,by simp only [A9];exact hx,e,r1⟩)
   (λu hu=>⟨u,by simp only [EX,A9,hb,Aa,AC,Ao,Aq,Ab],by simp only [Kl,AC,Ao,Aq,Ab],hu⟩) (s:=a) ⟨by omega,d⟩
  rw [q1,q2];simp only [Aa];rw [ad1 (by omega)];exact⟨u,rfl,rfl,by omega,q3.2⟩
 intro a ⟨c,d⟩;refine⟨a,by simp only [EA,AC,Ao,Aq,Ab],by simp only [IK,AC,Ao,Aq,Ab],?_,d⟩;rw [AN]at c;exact c
theorem dL {l:List γ} {i j:Int} {x y:γ} (h:gi l j=some y):∃z,gi (si l i x) j=some z:=by
 obtain⟨h1,h2⟩:=Dd h;have:=(Ah.1 h2).1;unfold gi;rw [Ax h1];exact⟨_,Ac (by simp only [si,EN];exact this)⟩
theorem jI (l:List A8) (k:Int):Ka l k=(Bs (Nj BT) 0 k l).map (Sum.map (λs=>(s.2,s.1)) id):=by
 unfold Ka Bs qZ jH
 cases hk:decide (k>0)with
 |false=>rfl
 |true=>
  simp only [Ae]
  cases h1:gi l (sb k 1)with
  |none=>cases h2:gi l k<;>simp
  |some x=>
   cases h2:gi l k with
   |none=>simp
   |some y=>
    simp only [Aa];have e:(decide (x.Page.Seq>y.Page.Seq))=Nj BT y x:=rfl;rw [e]
    cases Nj BT y x with
    |false=>rfl
    |true=>
     simp only [Ae,h1,h2,Aa];obtain⟨z,hz⟩:=dL (i:=k) (x:=x) h1;rw [hz];rfl
theorem wK {l l':List γ} {i j:Int} (h:jH l i j=some l'):l'.length=l.length:=by
 unfold jH at h;obtain⟨x,_,h⟩:=Ar.1 h;obtain⟨y,_,h⟩:=Ar.1 h
 injection h with h
 subst h;simp [si]
theorem yK {a j:Int} {l r:List A8} (h:Au (λs:Int×List A8=>Bs (Nj BT) a s.1 s.2) (j,l)=some r):r.length=l.length:=by
 refine pT (λs:Int×List A8=>s.2.length=l.length) (λr=>r.length=l.length) ?_ ?_ (s:=(j,l)) rfl h
 ·rintro⟨j,m⟩ s' hm hb;simp only [Bs]at hb;obtain⟨c,_,hb⟩:=Ar.1 hb
  cases c with
  |false=>cases hb
  |true=>
   simp only [Ae]at hb;obtain⟨m',h1,hb⟩:=Ar.1 hb
   injection hb with hb
   injection hb with hb
   subst hb;exact(wK h1).trans hm
 rintro⟨j,m⟩ b hm hb;simp only [Bs]at hb;obtain⟨c,_,hb⟩:=Ar.1 hb
 cases c with
 |false=>
  simp only [Ab]at hb
  injection hb with hb
  injection hb with hb
  subst hb;exact hm
 |true=>
  simp only [Ae]at hb;obtain⟨m',h1,hb⟩:=Ar.1 hb;cases hb
theorem mE (f:Flash) (hf:LN f) (hT:∀b∈f.Blocks,∀x∈b.Leaves,(L x.Text).length<=1048576) (hn:nl f.Blocks<=1048576):
  ∃r,GB f=some r/\JI f=some r/\r.length<=nl f.Blocks/\(∀y∈r,QJ f y)/\Sf BT r:=by
 obtain⟨X,h1,h2,h3,h4⟩:=SM f hf hT hn;obtain⟨r,h5,h6,h7⟩:=Z4 BT X (by omega);obtain⟨r',h8,h9,h10⟩:=IC BT [] X [] (by simp only [Bn];omega);have hr:r'=r:=OH BT h9 h6 (λk=>by rw [h7 k,<-h10 k]);subst hr;refine⟨r',?_,?_,?_,?_,h6⟩
 ·unfold GB;rw [h1,Aa];simp only [A6,Az,Bn,HG]at h8;unfold BS at h8;rw [show ad ((0:Nat):Int) 1=1 from rfl]at h8;have hc:Au (λs:List A8×Int=>Kb s.1 s.2) (X,1)=Au (λs:Int×List A8=>Bx (Nj BT) ((0:Nat):Int) (X.length:Int) s.1 s.2) (1,X):=by
   refine gE (body:=λs:Int×List A8=>Bx (Nj BT) ((0:Nat):Int) (X.length:Int) s.1 s.2) (body':=λs:List A8×Int=>Kb s.1 s.2) (λs=>(s.2,s.1)) (λs=>s.2.length=X.length) ?_ ?_ (1,X) rfl
   ·rintro⟨j,m⟩ hm;simp only at hm;simp only [Kb,Bx,BG,hm]
    cases decide (j<(X.length:Int))with
    |false=>rfl
    |true=>
     simp only [Ae];rw [kS (body:=λs:Int×List A8=>Bs (Nj BT) ((0:Nat):Int) s.1 s.2) (body':=λs:List A8×Int=>Ka s.1 s.2) (λs=>(s.2,s.1)) (λs=>jI s.2 s.1) (j,m)];cases Au (λs:Int×List A8=>Bs (Nj BT) ((0:Nat):Int) s.1 s.2) (j,m)<;>rfl
   rintro⟨j,m⟩ s' hm hb;simp only [Bx]at hb
   cases hc:decide (j<(X.length:Int))with
   |false=>rw [hc,Ab]at hb;cases hb
   |true=>
    rw [hc,Ae]at hb;obtain⟨m',h1,hb⟩:=Ar.1 hb
    injection hb with hb
    injection hb with hb
    subst hb;exact(yK h1).trans hm
  rw [hc];exact h8
 ·unfold JI;rw [h2,Aa,h5];rfl
 ·rw [<-h7.len];exact h3
 exact λy hy=>h4 y ((h7.mem).1 hy)
theorem MR {S:Type} {body:S->Option (S⊕List α)} (a:List α->Int->S) (g:Nat->α->α) (l0:List α) (h1:∀(i:Nat) (l:List α) x,l.length=l0.length->l[i]?=some x->l0[i]?=some x->body (a l (i:Nat))=some (.inl (a (l.set i (g i x)) ((i+1:Nat):Int)))) (h2:∀l:List α,l.length=l0.length->body (a l (l0.length:Nat))=some (.inr l)):Au body (a l0 0)=some (l0.mapIdx g):=by
 obtain⟨b,h3,h4⟩:=Bg (body:=body) a l0.length (λi l=>l.length=l0.length/\∀j,l[j]?=if j<i then(l0[j]?).map (g j)else l0[j]?) (λb=>b=l0.mapIdx g)
  (λl i hi hs=>by
   obtain⟨hl,hs⟩:=hs;have c:l0[i]?=some l0[i]:=Ac hi;have hx:l[i]?=some l0[i]:=by rw [hs,Ay (Ao _),c]
   refine .inl ⟨_,h1 i l _ hl hx c,by rw [EN,hl],λj=>?_⟩;rw [BI];by_cases e:i=j
   ·subst e;rw [Ax rfl,Ax (by omega),Ax (by omega),c];rfl
   rw [Ay e,hs];by_cases h:j<i
   ·rw [Ax h,Ax (by omega)]
   rw [Ay h,Ay (by omega)])
  (λl hs=>⟨l,h2 l hs.1,by
   apply Co;intro j;rw [hs.2,Kv];by_cases h:j<l0.length
   ·rw [Ax h]
   rw [Ay h,CN (by omega)]
   rfl⟩) (s:=l0) ⟨rfl,λj=>by rw [Ay (by omega)]⟩
 rw [h3,h4]
abbrev Ks:=List BL
def dk:BL:=BL.mk true []
def BD (K:Ks) (i:Int):BL:=(gi K i).getD dk
def Kt (k:BL) (j:Nat):Int:=(k.Kids[j]?).getD 0
def Oq (K:Ks) (i:Nat) (leaf:Bool) (n:Int):Bool:=bif leaf then decide (0<=n)else(n== -1||(decide (0<=n/\n<=(i:Int)-1)&&(BD K n).Leaf))
def Da (K:Ks):Bool:=K.zipIdx.all λz=>z.1.Kids.length==4&&z.1.Kids.all (Oq K z.2 z.1.Leaf)
def DG (K:Ks) (r:Int):Bool:=r== -1||(decide (0<=r/\r<(K.length:Int))&&!(BD K r).Leaf)
def PR (K:Ks) (root:Int) (s:Nat):Int:=if root<0 then 0 else if Kt (BD K root) (s/4)<0 then 0 else Kt (BD K (Kt (BD K root) (s/4))) (s %4)
def EQ (K:Ks) (root:Int):List Int:=(List.range 16).map (PR K root)
variable {K X:Ks}
theorem QH (h:i<K.length):BD K (i:Int)=K[i]:=by
 unfold BD;rw [A9,Ac h];rfl
theorem HL {i:Int} (h0:0<=i) (h:i<(K.length:Int)):gi K i=some (BD K i):=by
 unfold BD;rw [K2 h0 h];rfl
theorem E4 (x a b:Int):BX x a b=some (decide (a<=x/\x<=b)):=by
 rw [PO];congr 1;rw [DR];simp
theorem Iu:Da K=true↔∀i:Nat,i<K.length->(BD K (i:Int)).Kids.length=4/\∀n∈(BD K (i:Int)).Kids,Oq K i (BD K (i:Int)).Leaf n=true:=by
 unfold Da;rw [GO];constructor
 ·intro h i hi;have:=h (K[i],i) (by rw [List.mem_zipIdx_iff_getElem?];exact Ac hi);rw [Al,GO]at this;rw [QH hi];exact⟨by simpa using this.1,this.2⟩
 intro h z hz;rw [List.mem_zipIdx_iff_getElem?]at hz;obtain⟨a,hz⟩:=Ah.1 hz;have:=h z.2 a;rw [QH a,hz]at this;rw [Al,GO];exact⟨by simpa using this.1,this.2⟩
theorem Kd (a:Arena) (ha:a.Knots.length<=1048576):GF a=some (Da a.Knots):=by
 unfold GF;have h:=XA (body:=λs:Int=>Ej a s) a.Knots (λi k=>k.Kids.length==4&&k.Kids.all (Oq a.Knots i k.Leaf)) (.inr false) (.inl ()) (by omega)
  (λi k hk=>by
   have hi:=(Ah.1 hk).1;simp only [Ej,AC,Ad hi,Ae,A9,hk,Aa];by_cases h4:k.Kids.length=4
   ·have e1:(ln k.Kids !=4)=false:=by simp [ln,h4]
    have e2:(k.Kids.length==4)=true:=by simp [h4]
    simp only [e1,Ab,e2,CC];have q:=XA (body:=λs:Int=>Ei a (i:Int) k s) k.Kids (λ_ n=>Oq a.Knots i k.Leaf n) (.inr (.inr (.inr false))) (.inl ()) (by omega)
     (λj n hn=>by
      have hj:=(Ah.1 hn).1;simp only [Ei];rw [Ad (by omega:(j:Int)<4),Ae,A9,hn];simp only [Aa,Oq]
      cases hl:k.Leaf with
      |true=>
       simp only [Ae,Ai,Ab];by_cases h0:n<0
       ·rw [Ad h0,Af (by omega:¬0<=n)];rfl
       rw [Af h0,Ad (by omega:0<=n)];simp only [Ab,Aa,Ae];rw [ad1 (by omega)]
      |false=>
       simp only [Ab,AG,Ae];by_cases h1:n= -1
       ·subst h1;simp only [bne_self_eq_false,Ab,Aa,BEq.rfl,Bool.true_or,Ae];rw [ad1 (by omega)]
       have e3:(n != -1)=true:=by simp [h1]
       have e4:(n== -1)=false:=by simp [h1]
       rw [e3,e4];simp only [Ae,Uu];rw [Cw (by omega) (by omega),E4];simp only [Aa];by_cases h2:0<=n/\n<=(i:Int)-1
       ·rw [Ad h2];simp only [Ai,Ab];rw [HL h2.1 (by omega)];simp only [Aa,CC]
        cases(BD a.Knots n).Leaf with
        |true=>simp only [Ai,Ab,Ae];rw [ad1 (by omega)]
        |false=>rfl
       rw [Af h2];rfl)
     (by simp only [Ei];rw [Af (by omega:¬((k.Kids.length:Nat):Int)<4),Ab])
    rw [q];have hz:(k.Kids.zipIdx.all λz=>Oq a.Knots i k.Leaf z.1)=k.Kids.all (Oq a.Knots i k.Leaf):=by
     rw [show(λz:Int×Nat=>Oq a.Knots i k.Leaf z.1)=(Oq a.Knots i k.Leaf)∘Prod.fst from rfl,<-List.all_map];congr 1;simp
    simp only [Aa];rw [hz]
    cases k.Kids.all (Oq a.Knots i k.Leaf)with
    |true=>simp only [Ae,By];rw [ad1 (by omega)]
    |false=>rfl
   have e1:(ln k.Kids !=4)=true:=by simp [ln];omega
   have e2:(k.Kids.length==4)=false:=by simp [h4]
   simp only [e1,Ae,e2,Bool.false_and,Ab])
  (by simp only [Ej,AC,Ao,Aq,Ab])
 rw [h];unfold Da;simp only [Aa];cases(a.Knots.zipIdx.all λz=>z.1.Kids.length==4&&z.1.Kids.all (Oq a.Knots z.2 z.1.Leaf))<;>rfl
theorem Mb (a:Arena) (ha:a.Knots.length<=1048576) (r:Int):Hx a r=some (DG a.Knots r):=by
 unfold Hx DG
 cases hr:(r== -1)with
 |true=>rfl
 |false=>
  simp only [Ab,Uu];rw [BG,Cw (by omega) (by omega),E4];simp only [Aa];by_cases h:0<=r/\r<(a.Knots.length:Int)
  ·rw [Ad h,Ad (by omega:0<=r/\r<=(a.Knots.length:Int)-1)];simp only [Ae,CC];rw [HL h.1 h.2];rfl
  rw [Af h,Af (by omega:¬(0<=r/\r<=(a.Knots.length:Int)-1))];rfl
theorem Ch (h:DG K r=true):r= -1\/(0<=r/\r<(K.length:Int)/\(BD K r).Leaf=false):=by
 unfold DG at h;simp only [C3,Dt,Al,A5,CE]at h
 rcases h with h|h
 ·exact .inl h
 exact .inr ⟨h.1.1,h.1.2,h.2⟩
theorem Ft (hK:Da K=true) (h0:0<=r) (h1:r<(K.length:Int)):(BD K r).Kids.length=4/\∀j,j<4->(BD K r).Kids[j]?=some (Kt (BD K r) j)/\Oq K r.toNat (BD K r).Leaf (Kt (BD K r) j)=true:=by
 have:=Iu.1 hK r.toNat (by omega);rw [show((r.toNat:Nat):Int)=r by omega]at this;refine⟨this.1,λj hj=>?_⟩;have a:j<(BD K r).Kids.length:=by omega
 have e:(BD K r).Kids[j]?=some (Kt (BD K r) j):=by unfold Kt;rw [Ac a];rfl
 exact⟨e,this.2 _ (A3 e)⟩
theorem Ge (hK:Da K=true) (h0:0<=r) (h1:r<(K.length:Int)) (hl:(BD K r).Leaf=false) (hj:j<4):Kt (BD K r) j= -1\/(0<=Kt (BD K r) j/\Kt (BD K r) j<r/\(BD K (Kt (BD K r) j)).Leaf=true):=by
 have:=((Ft hK h0 h1).2 j hj).2;rw [hl]at this;simp only [Oq,Ab,C3,Dt,Al,A5]at this
 rcases this with h|⟨⟨h2,h3⟩,h4⟩
 ·exact .inl h
 exact .inr ⟨h2,by omega,h4⟩
theorem tW (hK:Da K=true) (h0:0<=r) (h1:r<(K.length:Int)) (hl:(BD K r).Leaf=true) (hj:j<4):0<=Kt (BD K r) j:=by
 have:=((Ft hK h0 h1).2 j hj).2;rw [hl]at this;simpa [Oq]using this
theorem qu4 (h:s<16):qu (s:Int) 4=((s/4:Nat):Int):=by
 unfold qu;rw [show Int.tdiv (s:Int) 4=((s/4:Nat):Int) by rw [Int.tdiv_eq_ediv_of_nonneg (by omega)];omega];exact NK (by omega) (by omega)
theorem rG:Int.tmod (s:Int) 4=((s %4:Nat):Int):=by
 rw [Kx (by omega)];omega
theorem Vw (a:Arena) (hK:Da a.Knots=true) (hr:DG a.Knots r=true) (hs:s<16):MB a r (s:Int)=some (PR a.Knots r s):=by
 unfold MB PR
 rcases Ch hr with rfl|⟨h0,h1,hl⟩
 ·rfl
 rw [Af (by omega:¬r<0),Ay (by omega),Ab,HL h0 h1];simp only [Aa];rw [qu4 hs,A9,((Ft hK h0 h1).2 (s/4) (by omega)).1];simp only [Aa]
 rcases Ge hK h0 h1 hl (show s/4<4 by omega)with e|⟨e1,e2,e3⟩
 ·rw [e];rfl
 rw [Af (by omega),Ay (by omega),Ab,HL e1 (by omega)];simp only [Aa];rw [rG,A9,((Ft hK e1 (by omega)).2 (s %4) (by omega)).1];rfl
theorem Xk (a:Arena) (ha:a.Knots.length<=1048576) (hK:Da a.Knots=true) (hr:DG a.Knots r=true) (hs:s<16):OR a r (s:Int)=some (PR a.Knots r s):=by
 unfold OR;rw [Kd a ha,Mb a ha,E4,hK,hr];simp only [Aa,Ai,Ab];rw [Ad (by omega:0<=(s:Int)/\(s:Int)<=15)];simp only [Ai,Ab];rw [Vw a hK hr hs]
 try rfl
theorem OZ (a:Arena) (ha:a.Knots.length<=1048576) (hK:Da a.Knots=true) (hr:DG a.Knots r=true):Jm a r=some (EQ a.Knots r):=by
 unfold Jm;obtain⟨b,h1,h2⟩:=Bg (body:=λs:List Int×Int=>Hh a r s.1 s.2) (λ(o:List Int) i=>(o,i)) 16 (λi o=>o=(List.range i).map (PR a.Knots r)) (λb=>b=EQ a.Knots r)
  (λo i hi ho=>by
   refine .inl ⟨_,?_,rfl⟩;simp only [Hh];rw [Ad (by omega:(i:Int)<16),Ae,Xk a ha hK hr hi];simp only [Aa];rw [Cn (by rw [ho];simp;omega)];simp only [Aa]
   rw [ad1 (by omega),ho,Er,Cq,List.map_singleton])
  (λo ho=>⟨_,by simp only [Hh];rw [Af (by omega:¬((16:Nat):Int)<16),Ab],ho⟩) (s:=[]) rfl
 have h1':Au (λs:List Int×Int=>Hh a r s.1 s.2) ([],0)=some b:=h1;rw [h1',h2];rfl
theorem KS {by_:Nat} (h:l.length*by_<=140737488355328):ap by_ [] l=some l:=by
 rw [Cn (by simpa using h),A6]
def uV (K:Ks):Prop:=K.length<=1048576/\∀k∈K,k.Kids.length<=1048576
theorem Ll (hK:Da K=true) (h:K.length<=1048576):uV K:=by
 refine⟨h,λk hk=>?_⟩;obtain⟨i,hi,rfl⟩:=AI hk;have:=(Iu.1 hK i hi).1;rw [QH hi]at this;omega
theorem Tw (a:Arena) (h:uV a.Knots):Mr a=some a:=by
 unfold Mr;have h1:=TN (body:=λs:Int×List BL=>JV a s.1 s.2) a.Knots (λk=>k)
  (λi k b hk ho=>by
   have hi:=(Ah.1 hk).1;have hm:=h.2 k (A3 hk);have:=h.1;simp only [JV,AC,Ad hi,Ae,A9,hk,Aa];rw [KS (by omega)];simp only [Aa];rw [Cn (by simp;omega)];simp only [Aa]
   rw [ad1 (by omega)])
  (λb=>by simp only [JV,AC,Ao,Aq,Ab])
 rw [h1];simp only [Aa,List.map_id']
theorem FZ (s:Store) (h:uV s.Arena.Knots) (hv:s.Vols.length<=1048576):El s=some s:=by
 unfold El;rw [KS (by omega),Tw _ h];rfl
def N3 (K:Ks) (r:Int) (s:Nat) (n:Int):List Int:=(if r<0 then [0,0,0,0]else if Kt (BD K r) (s/4)<0 then [0,0,0,0]else(BD K (Kt (BD K r) (s/4))).Kids).set (s %4) n
def RU (K:Ks) (r:Int) (s:Nat):List Int:=(if r<0 then [-1,-1,-1,-1]else(BD K r).Kids).set (s/4) (K.length:Int)
def Jc (K:Ks) (r:Int) (s:Nat) (n:Int):Ks:=K++ [BL.mk true (N3 K r s n),BL.mk false (RU K r s)]
theorem mk4:mk 8 (0:Int) 4=some [0,0,0,0]:=by rw [show(4:Int)=((4:Nat):Int)from rfl,UN (by omega) (by omega)];rfl
theorem g6 {k:BL} (h:j<k.Kids.length):gi k.Kids (j:Int)=some (Kt k j):=by
 unfold Kt;rw [A9,Ac h];rfl
theorem Xh (a:Arena) (ha:a.Knots.length<=1048000) (hK:Da a.Knots=true) (hr:DG a.Knots r=true) (hs:s<16) (hn:0<=n):
  Wq a r (s:Int) n=some (Arena.mk (Jc a.Knots r s n),(a.Knots.length:Int)+1):=by
 unfold Wq;rw [Tw _ (Ll hK (by omega)),Kd a (by omega),Mb a (by omega),E4,hK,hr];simp only [Aa,Ai,Ab];rw [Ad (by omega:0<=(s:Int)/\(s:Int)<=15),Af (by omega:¬n<0)];simp only [Ai,Ab,Aa];rw [mk4];simp only [Aa];have fin:∀(lf tp:List Int),lf.length=4->tp.length=4->Jc a.Knots r s n=a.Knots++ [BL.mk true (lf.set (s %4) n),BL.mk false (tp.set (s/4) (a.Knots.length:Int))]->
   ((gi lf (Int.tmod (s:Int) 4)).bind λx4=>(gi tp (qu (s:Int) 4)).bind λx5=>(ap 32 a.Knots [(BL.mk true (si lf (Int.tmod (s:Int) 4) n)),(BL.mk false (si tp (qu (s:Int) 4) (ln a.Knots)))]).bind λq4=>some ((Arena.mk q4),(sb (ln q4) 1)))=some (Arena.mk (Jc a.Knots r s n),(a.Knots.length:Int)+1):=by
  intro lf tp h1 h2 h3;rw [qu4 hs,rG,A9,A9,Ac (by omega),Ac (by omega)];simp only [Aa];rw [Cn (by simp;omega),Ep,Ep,BG,<-h3];simp only [Aa];rw [BG,h3,Ag,Cw (by simp;omega) (by simp;omega)];simp only [A0,Bn];congr 2;omega
 rcases Ch hr with rfl|⟨h0,h1,hl⟩
 ·rw [Af (by omega:¬(-1:Int)>=0)];simp only [Ab,Aa];exact fin _ _ rfl rfl rfl
 rw [Ad (by omega:r>=0),Ae,HL h0 h1];have h4:=(Ft hK h0 h1).1;simp only [Aa];rw [KS (by omega)];simp only [Aa];rw [qu4 hs,g6 (by omega:s/4<(BD a.Knots r).Kids.length)];simp only [Aa];rw [<-qu4 hs]
 rcases Ge hK h0 h1 hl (show s/4<4 by omega)with e|⟨e1,e2,e3⟩
 ·rw [Af (by omega:¬Kt (BD a.Knots r) (s/4)>=0)];simp only [Ab,Aa];exact fin _ _ rfl h4 (by unfold Jc N3 RU;simp only [Ay (show¬r<0 by omega),Ax (show Kt (BD a.Knots r) (s/4)<0 by omega)])
 rw [Ad (by omega:Kt (BD a.Knots r) (s/4)>=0),Ae,HL e1 (by omega)];have h5:=(Ft hK e1 (by omega)).1;simp only [Aa];rw [KS (by omega)];simp only [Aa];exact fin _ _ h5 h4 (by unfold Jc N3 RU;simp only [Ay (show¬r<0 by omega),Ay (show¬Kt (BD a.Knots r) (s/4)<0 by omega)])
def MZ (K:Ks) (r:Int) (i:Nat):Bool:=decide (0<=r)&&(decide (r=(i:Int))||(BD K r).Kids.any λn=>decide (n=(i:Int)))
theorem cT (n:Nat) (f:Nat->α) (g:Nat->α->α):((List.range n).map f).mapIdx g=(List.range n).map λi=>g i (f i):=by
 apply Co;intro j;rw [Kv,AQ,AQ];by_cases h:j<n
 ·rw [PZ h];rfl
 rw [CN (by simpa using h)];rfl
theorem Oi (n:Nat) (f:Nat->α) (i:Nat) (x:α) (g:Nat->α) (h:∀j,j<n->g j=if j=i then x else f j):((List.range n).map f).set i x=(List.range n).map g:=by
 apply Co;intro j;rw [BI,AQ,AQ];by_cases hj:j<n
 ·rw [PZ hj];simp only [B9,h j hj,Be,Ca];by_cases e:i=j
  ·rw [Ax e,Ax (by omega),Ax e.symm]
  rw [Ay e,Ay (ET e)]
 rw [CN (by simpa using hj)];simp only [Option.map_none,Be,Ca];split
 ·rw [Ay (by omega)]
 rfl
theorem H6 {n:Nat} {f:Nat->α} (h:i<n):((List.range n).map f)[i]?=some (f i):=by
 rw [AQ,PZ h];rfl
theorem Tl {l:List Int} {m:Nat} (h:l[m]?=some x) (p:Int->Bool):(l.take (m+1)).any p=((l.take m).any p||p x):=by
 rw [DY,h,List.any_append];simp
theorem fB (a:Arena) (ha:a.Knots.length<=1048576) (hK:Da a.Knots=true) (hr:DG a.Knots r=true):Tv a r=some ((List.range a.Knots.length).map (MZ a.Knots r)):=by
 unfold Tv;rw [BG,UN (by omega) (by omega)];simp only [Aa]
 rcases Ch hr with rfl|⟨h0,h1,hl⟩
 ·simp only [show decide ((-1:Int)<0)=true from rfl,Ae];congr 1;rw [show(MZ a.Knots (-1))=λ_=>false from rfl,Ju,Ca]
 rw [Af (by omega:¬r<0),Ab];obtain⟨m,rfl⟩:∃m:Nat,r=(m:Int):=⟨r.toNat,by omega⟩;rw [A9,List.getElem?_replicate,Ax (by omega)];simp only [Aa];rw [Ep];obtain⟨h4,hk⟩:=Ft hK h0 h1;obtain⟨b,q1,q2⟩:=Bg (body:=λs:List Bool×Int=>J0 a (m:Int) s.1 s.2) (λ(o:List Bool) i=>(o,i)) 4
  (λi o=>o=(List.range a.Knots.length).map λ(j:Nat)=>decide ((m:Int)=(j:Int))||((BD a.Knots (m:Int)).Kids.take i).any λn=>decide (n=(j:Int)))
  (λb=>b=(List.range a.Knots.length).map (MZ a.Knots (m:Int)))
  (λo i hi ho=>by
   obtain⟨e,_⟩:=hk i hi;simp only [J0];rw [Ad (by omega:(i:Int)<4),Ae,HL h0 h1];simp only [Aa];rw [A9,e];simp only [Aa]
   rcases Ge hK h0 h1 hl hi with e1|⟨e1,e2,e3⟩
   ·rw [e1,Af (by omega:¬(-1:Int)>=0),Ab,ad1 (by omega)];refine .inl ⟨o,rfl,?_⟩;rw [ho];apply CS;intro j hj;rw [Tl e,e1,Af (by omega:¬(-1:Int)=(j:Int)),OA]
   obtain⟨c,hc⟩:∃c:Nat,Kt (BD a.Knots (m:Int)) i=(c:Int):=⟨(Kt (BD a.Knots (m:Int)) i).toNat,by omega⟩;rw [hc,Ad (by omega:(c:Int)>=0),Ae]
   try simp only [Aa]
   rw [ho,A9,H6 (by omega)];simp only [Aa];rw [Ep,ad1 (by omega)];refine .inl ⟨_,rfl,?_⟩;apply Oi;intro j hj;rw [Tl e,hc];by_cases d:j=c
   ·subst d;simp
   rw [Ay d,Af (by omega:¬(c:Int)=(j:Int)),OA])
  (λo ho=>⟨_,by simp only [J0];rw [Af (by omega:¬((4:Nat):Int)<4),Ab],by
   rw [ho];apply CS;intro j hj;rw [AO (by omega)];unfold MZ
   rw [Ad h0,CC]⟩) (s:=(List.replicate a.Knots.length false).set m true) (by
   rw [<-Ca (n:=a.Knots.length),<-Ju,Ca];apply Oi;intro j hj;simp only [IN,List.any_nil,OA];by_cases e:j=m
   ·subst e;simp
   rw [Ay e,Af (by omega)])
 have q1':Au (λs:List Bool×Int=>J0 a (m:Int) s.1 s.2) ((List.replicate a.Knots.length false).set m true,0)=some b:=q1;rw [q1',q2];rfl
def C7 (K:Ks) (R:List Int) (i:Nat):Bool:=R.any λr=>MZ K r i
def YU (K:Ks) (R:List Int) (i:Nat):Nat:=((List.range i).filter (C7 K R)).length
def Mv (K:Ks) (R:List Int) (n:Int):Int:=if 0<=n then(YU K R n.toNat:Int)else n
def Wk (K:Ks) (R:List Int) (i:Nat):BL:=BL.mk (BD K (i:Int)).Leaf (bif(BD K (i:Int)).Leaf then(BD K (i:Int)).Kids else(BD K (i:Int)).Kids.map (Mv K R))
def RV (K:Ks) (R:List Int):Ks:=((List.range K.length).filter (C7 K R)).map (Wk K R)
theorem IA (l:List α) (f:α->α):l.mapIdx (λ_ x=>f x)=l.map f:=by
 apply Co;intro j;rw [Kv,AQ]
theorem NZ (hr:r∈R) (h0:0<=r):C7 K R r.toNat=true:=by
 unfold C7;rw [CW];exact⟨r,hr,by unfold MZ;rw [Ad h0,Ad (by omega:r=(r.toNat:Int))];rfl⟩
theorem WI (hK:Da K=true) (hR:∀r∈R,DG K r=true) (hu:C7 K R i=true) (hl:(BD K (i:Int)).Leaf=false):(i:Int)∈R:=by
 unfold C7 at hu;rw [CW]at hu;obtain⟨r,hr,h⟩:=hu;unfold MZ at h;simp only [Al,C3,A5,CW]at h;obtain⟨h0,h⟩:=h
 rcases h with h|⟨n,hn,h⟩
 ·rw [<-h];exact hr
 rcases Ch (hR r hr)with e|⟨_,h1,a⟩
 ·omega
 obtain⟨h4,hk⟩:=Ft hK h0 h1;obtain⟨j,hj,b⟩:=AI hn;have e:=(hk j (by omega)).1;rw [Ac hj,b]at e
 injection e with e
 rcases Ge hK h0 h1 a (show j<4 by omega)with k1|⟨_,_,k3⟩
 ·omega
 rw [<-e,h,hl]at k3;cases k3
theorem Tf (hr:r∈R) (h0:0<=r) (hn:n∈(BD K r).Kids) (h1:0<=n):C7 K R n.toNat=true:=by
 unfold C7;rw [CW];refine⟨r,hr,?_⟩;unfold MZ;rw [Ad h0,CC,C3,CW];exact .inr ⟨n,hn,by rw [A5];omega⟩
theorem zQ (i:Nat):YU K R i<=i:=by
 have:=CM (C7 K R) (List.range i);rw [Ca]at this;exact this
theorem YK (a:Arena) (ha:a.Knots.length<=1048576) (R:List Int) (hc:R.length<=1048576) (hR:∀r∈R,DG a.Knots r=true):Au (λs:Bool×Int=>FK a R s.1 s.2) (true,0)=some true:=by
 obtain⟨b,h1,h2⟩:=Bg (body:=λs:Bool×Int=>FK a R s.1 s.2) (λ(o:Bool) i=>(o,i)) R.length (λ_ o=>o=true) (λb=>b=true)
  (λo i hi ho=>by
   have hx:=Ac hi;simp only [FK,AC,Ad hi,Ae,Aa,ho,A9,hx];rw [Mb a ha,hR _ (AE hi)];simp only [Aa];rw [ad1 (by omega)]
   exact .inl ⟨true,rfl,rfl⟩)
  (λo ho=>⟨o,by simp only [FK,AC,Ao,Aq,Ab,Aa],ho⟩) (s:=true) rfl
 rw [h2]at h1;exact h1
theorem bT (a:Arena) (ha:a.Knots.length<=1048576) (hK:Da a.Knots=true) (R:List Int) (hc:R.length<=1048576) (hR:∀r∈R,DG a.Knots r=true):
  Au (λs:List Bool×Int=>FJ a R s.1 s.2) (List.replicate a.Knots.length false,0)=some ((List.range a.Knots.length).map (C7 a.Knots R)):=by
 obtain⟨b,h1,h2⟩:=Bg (body:=λs:List Bool×Int=>FJ a R s.1 s.2) (λ(o:List Bool) i=>(o,i)) R.length (λi o=>o=(List.range a.Knots.length).map λ(j:Nat)=>(R.take i).any λr=>MZ a.Knots r j) (λb=>b=(List.range a.Knots.length).map (C7 a.Knots R))
  (λo i hi ho=>by
   have hx:=Ac hi;simp only [FJ,AC,Ad hi,Ae,Aa,A9,hx];rw [fB a ha hK (hR _ (AE hi))];simp only [Aa];have d:o.length=a.Knots.length:=by rw [ho];simp
   have q:=MR (body:=λs:List Bool×Int=>Hn ((List.range a.Knots.length).map (MZ a.Knots R[i])) s.1 s.2) (λl i=>(l,i)) (λk x=>x||MZ a.Knots R[i] k) o
    (λk l x hl c e=>by
     have hk:k<a.Knots.length:=by have:=(Ah.1 c).1;omega
     simp only [Hn,AC];rw [Ad (by simpa using hk),Ae,A9,c];simp only [Aa]
     cases x with
     |true=>simp only [Ae,Bool.true_or];rw [Ep,ad1 (by omega)]
     |false=>
      simp only [Ab,Uu];rw [A9,H6 hk];simp only [Aa]
      rw [Ep,ad1 (by omega)])
    (λl hl=>by simp only [Hn,AC];rw [d,Af (by simp),Ab])
   rw [q];simp only [Aa];rw [ad1 (by omega),ho,cT];refine .inl ⟨_,rfl,?_⟩;apply CS;intro j hj;rw [DY,hx,List.any_append]
   simp)
  (λo ho=>⟨o,by simp only [FJ,AC,Ao,Aq,Ab],by rw [ho,AO (by omega)];rfl⟩) (s:=List.replicate a.Knots.length false) (by
   simp only [IN,List.any_nil]
   rw [Ju,Ca])
 rw [<-h2];exact h1
def R0 (K:Ks) (R:List Int) (i:Nat):List Int:=(List.range K.length).map λ(j:Nat)=>if j<i/\C7 K R j=true then(YU K R j:Int)else 0
theorem YL (a:Arena) (ha:a.Knots.length<=1048576) (hK:Da a.Knots=true) (R:List Int) (hR:∀r∈R,DG a.Knots r=true):
  Au (λs:List Int×Int×List BL=>FI a ((List.range a.Knots.length).map (C7 a.Knots R)) s.1 s.2.1 s.2.2) (List.replicate a.Knots.length 0,0,[])=some (R0 a.Knots R a.Knots.length,RV a.Knots R):=by
 obtain⟨b,h1,h2⟩:=Bg (body:=λs:List Int×Int×List BL=>FI a ((List.range a.Knots.length).map (C7 a.Knots R)) s.1 s.2.1 s.2.2) (λ(o:List Int×List BL) i=>(o.1,i,o.2)) a.Knots.length
  (λi o=>o=(R0 a.Knots R i,((List.range i).filter (C7 a.Knots R)).map (Wk a.Knots R))) (λb=>b=(R0 a.Knots R a.Knots.length,RV a.Knots R))
  (λo i hi ho=>by
   subst ho;simp only [FI,AC,Ad hi,Ae];rw [A9,H6 hi];simp only [Aa]
   cases hu:C7 a.Knots R i with
   |false=>
    simp only [AG,Ae];rw [ad1 (by omega)];refine .inl ⟨(R0 a.Knots R i,((List.range i).filter (C7 a.Knots R)).map (Wk a.Knots R)),rfl,?_⟩;congr 1
    ·unfold R0;apply CS;intro j hj;by_cases e:j=i
     ·subst e;rw [Ay (by omega),Ay (by rw [hu];simp)]
     by_cases h:j<i/\C7 a.Knots R j=true
     ·rw [Ax h,Ax ⟨by omega,h.2⟩]
     rw [Ay h,Ay (λh3=>h ⟨by omega,h3.2⟩)]
    rw [Er,AS,Cj (by rw [hu];simp)];simp
   |true=>
    simp only [Ai,Ab];have h0:(0:Int)<=(i:Int):=by omega
    have d:(i:Int)<(a.Knots.length:Int):=by omega
    rw [HL h0 d];obtain⟨h4,hk⟩:=Ft hK h0 d;simp only [Aa];rw [KS (by omega)];simp only [Aa];have inner:Au (λs:Int×List Int=>FH (R0 a.Knots R i) ((BD a.Knots (i:Int)).Leaf,(BD a.Knots (i:Int)).Kids) s.1 s.2) (0,(BD a.Knots (i:Int)).Kids)=some (Wk a.Knots R i).Kids:=by
     unfold Wk
     cases hl:(BD a.Knots (i:Int)).Leaf with
     |true=>rw [A7];rfl
     |false=>
      have q:=MR (body:=λs:Int×List Int=>FH (R0 a.Knots R i) (false,(BD a.Knots (i:Int)).Kids) s.1 s.2) (λl k=>(k,l)) (λ_ x=>Mv a.Knots R x) (BD a.Knots (i:Int)).Kids
       (λk l x t f g=>by
        have m:k<4:=by have:=(Ah.1 g).1;omega
        have ex:x=Kt (BD a.Knots (i:Int)) k:=by have:=(hk k m).1;rw [g]at this;injection this
        simp only [FH];rw [Ad (by omega:(k:Int)<4)];simp only [Ae,Aa,AG];rw [A9,f];simp only [Aa]
        rcases Ge hK h0 d hl m with e|⟨e1,e2,e3⟩
        ·rw [Af (by omega:¬x>=0),Ab,ad1 (by omega)];have:Mv a.Knots R x=x:=by unfold Mv;rw [Ay (by omega)]
         rw [this,show l.set k x=l from by
          apply Co;intro j;rw [BI];split
          ·rename_i e5;subst e5;rw [Ax (Ah.1 f).1,f]
          rfl]
        rw [Ad (by omega:x>=0),Ae];obtain⟨c,hc⟩:∃c:Nat,x=(c:Int):=⟨x.toNat,by omega⟩;have u:x∈(BD a.Knots (i:Int)).Kids:=A3 g;have n:=Tf (WI hK hR hu hl) h0 u (by omega);rw [hc]at n;rw [hc,A9];unfold R0;rw [H6 (by omega)];simp only [Aa];rw [Ax ⟨by omega,n⟩,Ep,ad1 (by omega)];unfold Mv;rw [Ax (by omega)]
        rfl)
       (λl t=>by
        simp only [FH];rw [h4,Af (by omega:¬((4:Nat):Int)<4)]
        rfl)
      rw [IA]at q;exact q
    rw [inner];simp only [Aa];have v:gi (R0 a.Knots R i) (i:Int)=some 0:=by
     unfold R0;rw [A9,H6 hi,Ay (by omega)]
    rw [v];simp only [Aa];have w:=zQ (K:=a.Knots) (R:=R) i;have p:(((List.range i).filter (C7 a.Knots R)).map (Wk a.Knots R)).length=YU a.Knots R i:=by rw [Be];rfl
    rw [Cn (by rw [p];simp;omega)];simp only [Aa];rw [ad1 (by omega),BG,p,Ep];refine .inl ⟨(_,_),rfl,?_⟩;congr 1
    ·unfold R0;apply Oi;intro j hj;by_cases e:j=i
     ·subst e;rw [Ax ⟨by omega,hu⟩,Ax rfl]
     rw [Ay e];by_cases h:j<i/\C7 a.Knots R j=true
     ·rw [Ax h,Ax ⟨by omega,h.2⟩]
     rw [Ay h,Ay (λh3=>h ⟨by omega,h3.2⟩)]
    rw [Er,AS,Cc hu,Gl,Cq]
    rfl)
  (λo ho=>⟨o,by simp only [FI,AC,Ao,Aq,Ab],ho⟩) (s:=(List.replicate a.Knots.length 0,[])) (by
   unfold R0;simp only [Nat.not_lt_zero,false_and,Gp];rw [Ju,Ca]
   rfl)
 rw [<-h2];exact h1
theorem jY (a:Arena) (ha:a.Knots.length<=1048576) (R:List Int) (hc:R.length<=1048576) (hR:∀r∈R,DG a.Knots r=true):
  Au (λs:List Int×Int=>FG (R0 a.Knots R a.Knots.length,RV a.Knots R) s.1 s.2) (R,0)=some (R.map (Mv a.Knots R)):=by
 have q:=MR (body:=λs:List Int×Int=>FG (R0 a.Knots R a.Knots.length,RV a.Knots R) s.1 s.2) (λl k=>(l,k)) (λ_ x=>Mv a.Knots R x) R
  (λk l x f b d=>by
   have hk:=(Ah.1 d).1;have g:=(Ah.1 b).1;simp only [FG,AC,Ad g,Ae,A9,b,Aa]
   rcases Ch (hR x (A3 d))with e|⟨e1,e2,e3⟩
   ·rw [Af (by omega:¬x>=0),Ab,ad1 (by omega)];have:Mv a.Knots R x=x:=by unfold Mv;rw [Ay (by omega)]
    rw [this,show l.set k x=l from by
     apply Co;intro j;rw [BI];split
     ·rename_i e5;subst e5
      first
       |rw [Ax g,b]
       |exact b.symm
     rfl]
   rw [Ad (by omega:x>=0),Ae];obtain⟨c,h⟩:∃c:Nat,x=(c:Int):=⟨x.toNat,by omega⟩;have i:=NZ (K:=a.Knots) (A3 d) e1;rw [h]at i;rw [h,A9];unfold R0;rw [H6 (by omega)];simp only [Aa];rw [Ax ⟨by omega,i⟩,Ep,ad1 (by omega)];unfold Mv;rw [Ax (by omega)]
   rfl)
  (λl f=>by simp only [FG,BG,f];rw [Af (by omega),Ab])
 rw [IA]at q;exact q
theorem Xf (a:Arena) (ha:a.Knots.length<=1048576) (hK:Da a.Knots=true) (R:List Int) (hc:R.length<=1048576) (hR:∀r∈R,DG a.Knots r=true):
  JX a R=some (Arena.mk (RV a.Knots R),R.map (Mv a.Knots R)):=by
 unfold JX;rw [KS (by omega),Kd a ha,hK];simp only [Aa];rw [YK a ha R hc hR];simp only [Aa,Ai,Ab];rw [BG,UN (by omega) (by omega)];simp only [Aa];rw [bT a ha hK R hc hR];simp only [Aa];rw [UN (by omega) (by omega)];simp only [Aa];rw [YL a ha hK R hR];simp only [Aa];rw [jY a ha R hc hR];rfl
theorem XX (p:Nat->Bool) (hp:p i=true):∀{n:Nat},i<n->((List.range n).filter p)[((List.range i).filter p).length]?=some i
 |0,h=>by omega
 |n+1,h=>by
  rw [Er,AS];by_cases e:i=n
  ·subst e;rw [AU (A4 _),Rk,Cc hp];rfl
  have h2:=XX p hp (show i<n by omega);have h3:=(Ah.1 h2).1;rw [AM h3,h2]
theorem hO {n:Nat} (p:Nat->Bool) (hp:p i=true) (h:i<n):((List.range i).filter p).length<((List.range n).filter p).length:=(Ah.1 (XX p hp h)).1
theorem hJ (p:Nat->Bool):∀{n j:Nat},j<((List.range n).filter p).length->∃i,i<n/\p i=true/\((List.range i).filter p).length=j
 |0,j,h=>by simp at h
 |n+1,j,h=>by
  rw [Er,AS,Ag]at h;by_cases e:j<((List.range n).filter p).length
  ·obtain⟨i,h1,h2,h3⟩:=hJ p e;exact⟨i,by omega,h2,h3⟩
  by_cases hp:p n=true
  ·rw [Cc hp]at h;simp at h;exact⟨n,by omega,hp,by omega⟩
  rw [Cj hp]at h;simp at h;omega
theorem bD:(RV K R).length=YU K R K.length:=by unfold RV YU;rw [Be]
theorem Rm (hu:C7 K R i=true) (hi:i<K.length):BD (RV K R) (YU K R i:Nat)=Wk K R i/\YU K R i<(RV K R).length:=by
 have h:=hO (C7 K R) hu hi;have h2:YU K R i<(RV K R).length:=by rw [bD];exact h
 refine⟨?_,h2⟩;unfold BD;rw [A9];unfold RV;rw [AQ];have:=XX (C7 K R) hu hi;rw [show YU K R i=((List.range i).filter (C7 K R)).length from rfl,this];rfl
theorem rJ (hj:j<(RV K R).length):∃i,i<K.length/\C7 K R i=true/\YU K R i=j:=by
 rw [bD]at hj;exact hJ (C7 K R) hj
theorem ABg (hu:C7 K R i=true) (h:i<j):YU K R i<YU K R j:=hO _ hu h
theorem WR (i:Nat):(Wk K R i).Leaf=(BD K (i:Int)).Leaf:=rfl
theorem m6 (hK:Da K=true) (hi:i<K.length):(Wk K R i).Kids.length=4:=by
 have:=(Iu.1 hK i hi).1;unfold Wk
 cases(BD K (i:Int)).Leaf with
 |true=>exact this
 |false=>simp only [Ab,Be];exact this
theorem m7 (hl:(BD K (i:Int)).Leaf=false) (hj:j<(BD K (i:Int)).Kids.length):Kt (Wk K R i) j=Mv K R (Kt (BD K (i:Int)) j):=by
 unfold Kt Wk;rw [hl];simp only [Ab];rw [AQ,Ac hj];rfl
theorem Se (hl:(BD K (i:Int)).Leaf=true):(Wk K R i).Kids=(BD K (i:Int)).Kids:=by
 unfold Wk;rw [hl];rfl
theorem Ry (h:n<0):Mv K R n=n:=by unfold Mv;rw [Ay (by omega)]
theorem Rz (n:Nat):Mv K R (n:Int)=(YU K R n:Int):=by unfold Mv;rw [Ax (by omega)];rfl
theorem AAj (hK:Da K=true) (hR:∀r∈R,DG K r=true):Da (RV K R)=true:=by
 rw [Iu];intro j hj;obtain⟨i,hi,hu,rfl⟩:=rJ hj;rw [(Rm hu hi).1];refine⟨m6 hK hi,λn hn=>?_⟩;have h0:(0:Int)<=(i:Int):=by omega
 have h1:(i:Int)<(K.length:Int):=by omega
 obtain⟨h4,hk⟩:=Ft hK h0 h1;rw [WR]
 cases hl:(BD K (i:Int)).Leaf with
 |true=>
  rw [Se hl]at hn;have:=(Iu.1 hK i hi).2 n hn;rw [hl]at this;simpa [Oq]using this
 |false=>
  obtain⟨m,hm,b⟩:=AI hn;rw [m6 hK hi]at hm;have e:n=Mv K R (Kt (BD K (i:Int)) m):=by
   rw [<-m7 hl (by omega),<-b];unfold Kt;rw [Ac];rfl
  rcases Ge hK h0 h1 hl hm with k1|⟨k1,k2,k3⟩
  ·rw [k1,Ry (by omega)]at e;subst e;rfl
  obtain⟨c,hc⟩:∃c:Nat,Kt (BD K (i:Int)) m=(c:Int):=⟨_,(Bm k1).symm⟩;rw [hc]at e k2 k3;rw [Rz]at e;have a:=Tf (WI hK hR hu hl) h0 (A3 (hk m hm).1) (by omega);rw [hc]at a;have d:c<K.length:=by omega
  have f:YU K R c<YU K R i:=ABg (by simpa using a) (by omega);subst e;simp only [Oq,Ab,C3,Dt,Al,A5];refine .inr ⟨by omega,?_⟩;rw [(Rm (by simpa using a) d).1,WR];exact k3
theorem sG (hR:∀r∈R,DG K r=true) (hr:r∈R):DG (RV K R) (Mv K R r)=true:=by
 rcases Ch (hR r hr)with e|⟨h0,h1,hl⟩
 ·rw [e,Ry (by omega)];rfl
 obtain⟨c,rfl⟩:∃c:Nat,r=(c:Int):=⟨_,(Bm h0).symm⟩;have a:=NZ (K:=K) hr h0;rw [Ba]at a;obtain⟨g1,g2⟩:=Rm a (by omega);rw [Rz];unfold DG;rw [Ad (by omega),g1,WR,hl];simp
theorem nH (hK:Da K=true) (hR:∀r∈R,DG K r=true) (hr:r∈R):EQ (RV K R) (Mv K R r)=EQ K r:=by
 unfold EQ;apply CS;intro s hs;rw [GU]at hs;unfold PR
 rcases Ch (hR r hr)with e|⟨h0,h1,hl⟩
 ·rw [e,Ry (by omega),Ax (by omega),Ax (by omega)]
 obtain⟨c,rfl⟩:∃c:Nat,r=(c:Int):=⟨_,(Bm h0).symm⟩;have a:=NZ (K:=K) hr h0;rw [Ba]at a;obtain⟨g1,g2⟩:=Rm a (by omega);obtain⟨h4,hk⟩:=Ft hK h0 h1;rw [Rz,g1,m7 hl (by omega)];simp only [Ay (show¬((YU K R c:Nat):Int)<0 by omega),Ay (show¬((c:Nat):Int)<0 by omega)]
 rcases Ge hK h0 h1 hl (show s/4<4 by omega)with k1|⟨k1,k2,k3⟩
 ·rw [k1,Ry (by omega)];rfl
 obtain⟨d,hd⟩:∃d:Nat,Kt (BD K (c:Int)) (s/4)=(d:Int):=⟨_,(Bm k1).symm⟩;have b:=Tf hr h0 (A3 (hk (s/4) (by omega)).1) k1;rw [hd]at b k2 k3;rw [hd,Rz];simp only [Ay (show¬((YU K R d:Nat):Int)<0 by omega),Ay (show¬((d:Nat):Int)<0 by omega)];rw [(Rm (by simpa using b) (by omega)).1];unfold Kt;rw [Se k3]
theorem wL (hK:Da K=true) (hR:∀r∈R,DG K r=true) (hj:j<(RV K R).length):C7 (RV K R) (R.map (Mv K R)) j=true:=by
 obtain⟨i,hi,hu,rfl⟩:=rJ hj;have hu':=hu;unfold C7 at hu';rw [CW]at hu';obtain⟨r,hr,h⟩:=hu';unfold MZ at h;simp only [Al,C3,A5,CW]at h;obtain⟨h0,h⟩:=h;unfold C7;rw [CW];refine⟨Mv K R r,AJ.2 ⟨r,hr,rfl⟩,?_⟩;obtain⟨c,rfl⟩:∃c:Nat,r=(c:Int):=⟨_,(Bm h0).symm⟩;rw [Rz];unfold MZ;simp only [Al,C3,A5,CW];refine⟨by omega,?_⟩
 rcases h with h|⟨n,hn,h⟩
 ·have:c=i:=by omega
  subst this;exact .inl rfl
 right
 rcases Ch (hR _ hr)with e|⟨_,h1,hl⟩
 ·omega
 have a:=NZ (K:=K) hr h0;rw [Ba]at a;rw [(Rm a (by omega)).1];refine⟨(YU K R i:Int),?_,rfl⟩;unfold Wk;rw [hl];simp only [Ab,AJ];exact⟨n,hn,by rw [h,Rz]⟩
theorem MT {i:Int} (h0:0<=i) (h:i<(K.length:Int)):BD (K++X) i=BD K i:=by
 obtain⟨c,rfl⟩:∃c:Nat,i=(c:Int):=⟨_,(Bm h0).symm⟩;unfold BD;rw [A9,A9,AM (by omega)]
theorem sD (h:DG K r=true):DG (K++X) r=true:=by
 rcases Ch h with e|⟨h0,h1,hl⟩
 ·rw [e];rfl
 unfold DG;rw [MT h0 h1,hl,Ad (by rw [Ag];omega)];simp
theorem nD (hK:Da K=true) (h:DG K r=true):EQ (K++X) r=EQ K r:=by
 unfold EQ;apply CS;intro s hs;rw [GU]at hs;unfold PR
 rcases Ch h with e|⟨h0,h1,hl⟩
 ·rw [e];rfl
 rw [MT h0 h1];simp only [Ay (show¬r<0 by omega)]
 rcases Ge hK h0 h1 hl (show s/4<4 by omega)with k1|⟨k1,k2,k3⟩
 ·rw [k1];rfl
 rw [MT k1 (by omega)]
theorem aA (hK:Da K=true) (hr:DG K r=true) (hs:s<16) (n:Int):(N3 K r s n).length=4:=by
 unfold N3;rw [EN]
 rcases Ch hr with e|⟨h0,h1,hl⟩
 ·rw [Ax (by omega)];rfl
 rw [Ay (by omega)]
 rcases Ge hK h0 h1 hl (show s/4<4 by omega)with k1|⟨k1,k2,k3⟩
 ·rw [Ax (by omega)];rfl
 rw [Ay (by omega)];exact(Ft hK k1 (by omega)).1
theorem eO (hK:Da K=true) (hr:DG K r=true) (s:Nat):(RU K r s).length=4:=by
 unfold RU;rw [EN]
 rcases Ch hr with e|⟨h0,h1,hl⟩
 ·rw [Ax (by omega)];rfl
 rw [Ay (by omega)];exact(Ft hK h0 h1).1
theorem UR:BD (Jc K r s n) (K.length:Int)=BL.mk true (N3 K r s n):=by
 unfold BD Jc;rw [A9,AU (A4 _),Rk];rfl
theorem UQ:BD (Jc K r s n) ((K.length:Int)+1)=BL.mk false (RU K r s):=by
 unfold BD Jc;rw [show(K.length:Int)+1=((K.length+1:Nat):Int)from rfl,A9,AU (by omega),show K.length+1-K.length=1 by omega];rfl
theorem AAs (hK:Da K=true) (hr:DG K r=true) (hs:s<16) (hn:0<=n):Da (Jc K r s n)=true:=by
 rw [Iu];intro j hj;have a:(Jc K r s n).length=K.length+2:=by unfold Jc;simp
 rw [a]at hj;by_cases h:j<K.length
 ·have hk:BD (Jc K r s n) (j:Int)=BD K (j:Int):=MT (by omega) (by omega);rw [hk];obtain⟨h4,h5⟩:=Iu.1 hK j h;refine⟨h4,λm hm=>?_⟩;have:=h5 m hm
  cases hl:(BD K (j:Int)).Leaf with
  |true=>rw [hl]at this;exact this
  |false=>
   rw [hl]at this;simp only [Oq,Ab,C3,Dt,Al,A5]at this⊢
   rcases this with e|⟨e1,e2⟩
   ·exact .inl e
   refine .inr ⟨e1,?_⟩;rw [show BD (Jc K r s n) m=BD K m from MT e1.1 (by omega)];exact e2
 by_cases e:j=K.length
 ·subst e;rw [UR];refine⟨aA hK hr hs n,λm hm=>?_⟩;simp only [Oq,Ae,A5];unfold N3 at hm
  rcases Ck hm with hm|hm
  ·rcases Ch hr with e|⟨h0,h1,hl⟩
   ·rw [Ax (by omega)]at hm;simp at hm;omega
   rw [Ay (by omega)]at hm
   rcases Ge hK h0 h1 hl (show s/4<4 by omega)with k1|⟨k1,k2,k3⟩
   ·rw [Ax (by omega)]at hm;simp at hm;omega
   rw [Ay (by omega)]at hm;have hq:=Iu.1 hK (Kt (BD K r) (s/4)).toNat (by omega);rw [Bm k1,k3]at hq;have:=hq.2 m hm;simpa [Oq]using this
  omega
 have:j=K.length+1:=by omega
 subst this;rw [show((K.length+1:Nat):Int)=(K.length:Int)+1 from rfl,UQ];refine⟨eO hK hr s,λm hm=>?_⟩;simp only [Oq,Ab,C3,Dt,Al,A5];unfold RU at hm
 rcases Ck hm with hm|hm
 ·rcases Ch hr with e|⟨h0,h1,hl⟩
  ·rw [Ax (by omega)]at hm;simp at hm;omega
  rw [Ay (by omega)]at hm;obtain⟨q,hq,rfl⟩:=AI hm;obtain⟨h4,hk⟩:=Ft hK h0 h1;have e5:=(hk q (by omega)).1;rw [Ac hq]at e5
  injection e5 with e5
  rw [e5]
  rcases Ge hK h0 h1 hl (show q<4 by omega)with k1|⟨k1,k2,k3⟩
  ·exact .inl k1
  refine .inr ⟨by omega,?_⟩;rw [show BD (Jc K r s n) (Kt (BD K r) q)=BD K (Kt (BD K r) q)from MT k1 (by omega)];exact k3
 refine .inr ⟨by omega,?_⟩;rw [hm,UR]
theorem pD:DG (Jc K r s n) ((K.length:Int)+1)=true:=by
 unfold DG;rw [UQ,Ad (by unfold Jc;simp;omega)];simp
theorem nM (hK:Da K=true) (hr:DG K r=true) (hs:s<16):EQ (Jc K r s n) ((K.length:Int)+1)=(EQ K r).set s n:=by
 unfold EQ;symm;apply Oi;intro t ht;unfold PR;rw [UQ];simp only [Ay (show¬((K.length:Int)+1)<0 by omega)];have a:=eO hK hr s;have b:=aA hK hr hs n;by_cases hq:t/4=s/4
 ·have e1:Kt (BL.mk false (RU K r s)) (t/4)=(K.length:Int):=by
   unfold Kt RU;rw [hq,BI,Ax rfl];unfold RU at a;rw [EN]at a;rw [Ax (by rw [a];omega)];rfl
  rw [e1,Ay (by omega),UR];have e2:Kt (BL.mk true (N3 K r s n)) (t %4)=if t %4=s %4 then n else(if r<0 then 0 else if Kt (BD K r) (s/4)<0 then 0 else Kt (BD K (Kt (BD K r) (s/4))) (t %4)):=by
   unfold Kt N3;unfold N3 at b;rw [EN]at b;rw [BI];by_cases e:s %4=t %4
   ·rw [Ax e,Ax (by rw [b];omega),Ax e.symm];rfl
   rw [Ay e,Ay (ET e)];have zero:([0,0,0,0]:List Int)[t %4]?.getD 0=0:=by
    have:t %4<4:=by omega
    generalize t %4=q at this
    match q,this with
    |0,_=>rfl
    |1,_=>rfl
    |2,_=>rfl
    |3,_=>rfl
   by_cases c1:r<0
   ·rw [Ax c1,Ax c1];exact zero
   rw [Ay c1,Ay c1];unfold Kt;by_cases c2:((BD K r).Kids[s/4]?).getD 0<0
   ·rw [Ax c2,Ax c2];exact zero
   rw [Ay c2,Ay c2]
  rw [e2,hq];by_cases e:t=s
  ·rw [Ax e,Ax (by rw [e])]
  rw [Ay e,Ay (by omega)]
 rw [Ay (show¬t=s by intro e;rw [e]at hq;exact hq rfl)];have e1:Kt (BL.mk false (RU K r s)) (t/4)=if r<0 then-1 else Kt (BD K r) (t/4):=by
  unfold Kt RU;rw [BI,Ay (ET hq)];by_cases c1:r<0
  ·rw [Ax c1,Ax c1];have:t/4<4:=by omega
   generalize t/4=q at this
   match q,this with
   |0,_=>rfl
   |1,_=>rfl
   |2,_=>rfl
   |3,_=>rfl
  rw [Ay c1,Ay c1]
 rw [e1]
 rcases Ch hr with e|⟨h0,h1,hl⟩
 ·rw [e];rfl
 simp only [Ay (show¬r<0 by omega)]
 rcases Ge hK h0 h1 hl (show t/4<4 by omega)with k1|⟨k1,k2,k3⟩
 ·rw [k1];rfl
 rw [show BD (Jc K r s n) (Kt (BD K r) (t/4))=BD K (Kt (BD K r) (t/4))from MT k1 (by omega)]
def LA (n:Nat) (p:Nat->Bool):Nat:=((List.range n).filter p).length
theorem KO (n:Nat) (p:Nat->Bool):LA (n+1) p=LA n p+(if p n=true then 1 else 0):=by
 unfold LA;rw [Er,AS,Ag];by_cases h:p n=true
 ·rw [Ax h,Cc h];rfl
 rw [Ay h,Cj h];rfl
theorem W5 (p q:Nat->Bool):∀n,LA n (λj=>p j||q j)<=LA n p+LA n q
 |0=>by simp [LA]
 |n+1=>by
  have:=W5 p q n;rw [KO,KO,KO];cases p n<;>cases q n<;>simp<;>omega
theorem Yf (x:Int):∀n,LA n (λj=>decide (x=(j:Int)))<=1/\(x>=(n:Int)->LA n (λj=>decide (x=(j:Int)))=0)
 |0=>by simp [LA]
 |n+1=>by
  obtain⟨h1,h2⟩:=Yf x n;rw [KO];by_cases h:x=(n:Int)
  ·have:=h2 (by omega);rw [Ax (by simpa using h)];exact⟨by omega,λh3=>by omega⟩
  rw [Ay (by simpa using h)];exact⟨by omega,λh3=>by rw [h2 (by omega)]⟩
theorem uS (l:List Int) (n:Nat):LA n (λj=>l.any λx=>decide (x=(j:Int)))<=l.length:=by
 induction l with
 |nil=>simp [LA]
 |cons x l ih=>
  simp only [List.any_cons,A0];have:=W5 (λj=>decide (x=(j:Int))) (λj=>l.any λx=>decide (x=(j:Int))) n;have:=(Yf x n).1;omega
theorem yS {n:Nat} {q:Nat->Bool} (h:∀j,j<n->p j=true->q j=true):LA n p<=LA n q:=by
 induction n with
 |zero=>simp [LA]
 |succ n ih=>
  have:=ih (λj hj=>h j (by omega));rw [KO,KO];by_cases e:p n=true
  ·rw [Ax e,Ax (h n (by omega) e)];omega
  rw [Ay e];omega
theorem iE {n:Nat} (h:∀j,j<n->p j=true):LA n p=n:=by
 induction n with
 |zero=>rfl
 |succ n ih=>rw [KO,Ax (h n (by omega)),ih (λj hj=>h j (by omega))]
theorem yM (hK:Da K=true) (hr:DG K r=true) (n:Nat):LA n (MZ K r)<=5:=by
 have h1:=W5 (λj=>decide (r=(j:Int))) (λj=>(BD K r).Kids.any λn=>decide (n=(j:Int))) n;have h2:=(Yf r n).1;have h3:=uS (BD K r).Kids n
 have h4:LA n (MZ K r)<=LA n (λj=>decide (r=(j:Int))||(BD K r).Kids.any λn=>decide (n=(j:Int))):=yS λj _ h=>by
  unfold MZ at h;rw [Al]at h;exact h.2
 rcases Ch hr with e|⟨h0,hl,_⟩
 ·have:LA n (MZ K r)=LA n (λ_=>false):=by rw [e];rfl
  rw [this];unfold LA;rw [B8.2 (by simp)];simp
 have:=(Ft hK h0 hl).1;omega
theorem WJ (hK:Da K=true) (n:Nat):∀(R:List Int),(∀r∈R,DG K r=true)->LA n (C7 K R)<=5*R.length
 |[],_=>by simp [LA,C7]
 |r::R,h=>by
  have h1:=WJ hK n R (λx hx=>h x (by simp [hx]));have h2:=yM hK (h r (by simp)) n;have h3:=W5 (MZ K r) (C7 K R) n;have h4:LA n (C7 K (r::R))=LA n (λj=>MZ K r j||C7 K R j):=rfl;rw [h4,A0];omega
theorem oV (hK:Da K=true) (hR:∀r∈R,DG K r=true):(RV K R).length<=5*R.length:=by
 rw [bD];exact WJ hK _ R hR
def BB (s:Store):List Int:=s.Vols.map Vol.Root
structure StoreR (s:Store):Prop where
 len:s.Vols.length<=3
 ar:Da s.Arena.Knots=true
 nx:1<=s.Next/\s.Next<=1000000000
 ids:∀v∈s.Vols,1<=v.Id/\v.Id<=9
 asc:(s.Vols.map Vol.Id).Pairwise (·<·)
 root:∀r∈BB s,DG s.Arena.Knots r=true
 lt:∀r∈BB s,∀x∈EQ s.Arena.Knots r,x<s.Next
 few:s.Arena.Knots.length<=1000
structure Dn (s:Store):Prop extends StoreR s where
 used:∀i,i<s.Arena.Knots.length->C7 s.Arena.Knots (BB s) i=true
theorem Dn.small {s:Store} (h:Dn s):s.Arena.Knots.length<=15:=by
 have h1:=WJ h.ar s.Arena.Knots.length (BB s) h.root;rw [iE h.used]at h1;have:(BB s).length=s.Vols.length:=by unfold BB;rw [Be]
 have:=h.len;omega
def BJ (s:Store):List (Int×List Int):=s.Vols.map λv=>(v.Id,EQ s.Arena.Knots v.Root)
def K5 (s:Store):Store:=Store.mk (s.Vols.map λv=>Vol.mk v.Id (Mv s.Arena.Knots (BB s) v.Root)) (Arena.mk (RV s.Arena.Knots (BB s))) s.Next
theorem Pd (s:Store):BB (K5 s)=(BB s).map (Mv s.Arena.Knots (BB s)):=by
 unfold BB K5;simp only [Fy];rfl
theorem mZ {s:Store} (h:StoreR s):Dn (K5 s):=by
 have b:(BB s).length=s.Vols.length:=by unfold BB;rw [Be]
 refine⟨⟨by unfold K5;simpa using h.len,AAj h.ar h.root,h.nx,?_,?_,?_,?_,?_⟩,?_⟩
 ·intro v hv;unfold K5 at hv;simp only [AJ]at hv;obtain⟨w,hw,rfl⟩:=hv;exact h.ids w hw
 ·have:((K5 s).Vols.map Vol.Id)=s.Vols.map Vol.Id:=by unfold K5;simp only [Fy];rfl
  rw [this];exact h.asc
 ·intro r hr;rw [Pd]at hr;obtain⟨q,hq,rfl⟩:=AJ.1 hr;exact sG h.root hq
 ·intro r hr;rw [Pd]at hr;obtain⟨q,hq,rfl⟩:=AJ.1 hr;have:=nH h.ar h.root hq;intro x hx;have a:x∈EQ s.Arena.Knots q:=by rw [<-this];exact hx
  exact h.lt q hq x a
 ·have:=oV h.ar h.root;have:=h.len;show(RV s.Arena.Knots (BB s)).length<=1000;omega
 intro i hi;rw [Pd];exact wL h.ar h.root hi
theorem Zy {s:Store} (h:StoreR s):BJ (K5 s)=BJ s:=by
 unfold BJ;show(s.Vols.map λv=>Vol.mk v.Id (Mv s.Arena.Knots (BB s) v.Root)).map _=_;rw [Fy];apply CS;intro v hv;have:=nH h.ar h.root (show v.Root∈BB s from AJ.2 ⟨v,hv,rfl⟩);show(v.Id,EQ (RV s.Arena.Knots (BB s)) (Mv s.Arena.Knots (BB s) v.Root))=_;rw [this]
theorem Sh (s:Store) (hv:s.Vols.length<=1048576):MA s=some (BB s):=by
 unfold MA;obtain⟨b,h1,h2⟩:=Bg (body:=λq:List Int×Int=>Hw s q.1 q.2) (λ(o:List Int) i=>(o,i)) s.Vols.length (λi o=>o=(s.Vols.take i).map Vol.Root) (λb=>b=BB s)
  (λo i hi ho=>by
   have hx:=Ac hi;simp only [Hw,AC,Ad hi,Ae,A9,hx,Aa];rw [Cn (by rw [ho];simp;omega)];simp only [Aa];rw [ad1 (by omega)]
   exact .inl ⟨_,rfl,by rw [ho,DY,hx,Cq];rfl⟩)
  (λo ho=>⟨o,by simp only [Hw,AC,Ao,Aq,Ab],by rw [ho,AO (A4 _)];rfl⟩) (s:=[]) rfl
 have h1':Au (λq:List Int×Int=>Hw s q.1 q.2) ([],0)=some b:=h1;rw [h1',h2];rfl
theorem IW {s:Store} (h:StoreR s):Hf s=some (K5 s):=by
 have hl:=h.len;have hf:=h.few;have d:(BB s).length=s.Vols.length:=by unfold BB;rw [Be]
 unfold Hf;rw [Sh s (by omega)];simp only [Aa];rw [Xf _ (by omega) h.ar _ (by omega) h.root];simp only [Aa];rw [KS (by omega)];simp only [Aa];have q:=MR (body:=λq:Int×List Vol=>IX ((BB s).map (Mv s.Arena.Knots (BB s)),RV s.Arena.Knots (BB s)) q.1 q.2) (λl i=>(i,l)) (λ_ v=>Vol.mk v.Id (Mv s.Arena.Knots (BB s) v.Root)) s.Vols
  (λi l x a b c=>by
   have hi:=(Ah.1 b).1;simp only [IX,AC,Ad hi,Ae];have:gi ((BB s).map (Mv s.Arena.Knots (BB s))) (i:Int)=some (Mv s.Arena.Knots (BB s) x.Root):=by
    rw [A9,AQ];unfold BB;rw [AQ,c];rfl
   rw [this,A9,b];simp only [Aa]
   rw [Ep,ad1 (by omega)])
  (λl a=>by simp only [IX,BG,a];rw [Af (by omega),Ab])
 rw [IA]at q;rw [q];rfl
theorem WQ {s:Store} (h:Dn s):K5 s=s:=by
 have c:∀i,i<=s.Arena.Knots.length->YU s.Arena.Knots (BB s) i=i:=λi hi=>iE (λj hj=>h.used j (by omega))
 have a:∀n:Int,n<(s.Arena.Knots.length:Int)->Mv s.Arena.Knots (BB s) n=n:=λn hn=>by
  unfold Mv;split
  ·rw [c _ (by omega)];omega
  rfl
 have b:∀r∈BB s,Mv s.Arena.Knots (BB s) r=r:=λr hr=>by
  rcases Ch (h.root r hr)with e|⟨h0,h1,_⟩
  ·rw [e,Ry (by omega)]
  exact a r h1
 have d:RV s.Arena.Knots (BB s)=s.Arena.Knots:=by
  unfold RV;rw [Gu.2 (λi hi=>h.used i (by simpa using hi))];apply Co;intro i;rw [AQ];by_cases hi:i<s.Arena.Knots.length
  ·rw [PZ hi,Ac hi];simp only [B9];congr 1;have h0:(0:Int)<=(i:Int):=by omega
   have h1:(i:Int)<(s.Arena.Knots.length:Int):=by omega
   unfold Wk
   cases hl:(BD s.Arena.Knots (i:Int)).Leaf with
   |true=>
    simp only [Ae];rw [<-hl,QH hi]
   |false=>
    simp only [Ab];have:(BD s.Arena.Knots (i:Int)).Kids.map (Mv s.Arena.Knots (BB s))=(BD s.Arena.Knots (i:Int)).Kids:=by
     conv=>rhs;rw [<-SY (BD s.Arena.Knots (i:Int)).Kids]
     apply CS;intro n hn;obtain⟨q,hq,rfl⟩:=AI hn;obtain⟨h4,hk⟩:=Ft h.ar h0 h1;have e5:=(hk q (by omega)).1;rw [Ac hq]at e5
     injection e5 with e5
     rw [e5]
     rcases Ge h.ar h0 h1 hl (show q<4 by omega)with k1|⟨k1,k2,k3⟩
     ·rw [k1,Ry (by omega)];rfl
     exact a _ (by omega)
    rw [this,<-hl,QH hi]
  rw [CN (by simpa using hi),CN (by omega)];rfl
 unfold K5;rw [d];have:(s.Vols.map λv=>Vol.mk v.Id (Mv s.Arena.Knots (BB s) v.Root))=s.Vols:=by
  conv=>rhs;rw [<-SY s.Vols]
  apply CS;intro v hv;rw [b _ (AJ.2 ⟨v,hv,rfl⟩)];rfl
 rw [this]
theorem Yi (hs:s<16):PR K r s∈EQ K r:=AJ.2 ⟨s,by simpa using hs,rfl⟩
theorem Ok {l:List Int} {y:Int} (h:l.Pairwise (·<·)) (a:i<j) (hx:l[i]?=some x) (hy:l[j]?=some y):x<y:=by
 obtain⟨h1,rfl⟩:=Ah.1 hx;obtain⟨h2,rfl⟩:=Ah.1 hy;exact List.pairwise_iff_getElem.1 h i j h1 h2 a
theorem Qr {s:Store} (h:Dn s):Og s=some true:=by
 have hl:=h.len;have hf:=h.few;have d:(BB s).length=s.Vols.length:=by unfold BB;rw [Be]
 unfold Og;rw [BG,Af (by omega),Ab,Kd _ (by omega),h.ar,E4,Ad h.nx];simp only [Aa,Ai,Ab];obtain⟨b,h1,h2⟩:=Bg (body:=λq:Int=>I7 s q) (λ(_:Unit) i=>i) s.Vols.length (λ_ _=>True) (λb=>b= .inl ())
  (λ_ i hi _=>by
   have hx:=Ac hi;have hm:s.Vols[i]∈s.Vols:=AE hi;have hr:s.Vols[i].Root∈BB s:=AJ.2 ⟨_,hm,rfl⟩;simp only [I7,AC,Ad hi,Ae,A9,hx,Aa];rw [E4,Ad (h.ids _ hm),Mb _ (by omega),h.root _ hr];simp only [Aa,Ai,Ab];have a:(bif(decide ((i:Int)>0))then((gi s.Vols (sb (i:Int) 1)).bind λx2=>bif(decide (x2.Id>=s.Vols[i].Id))then(some true)else(some false))else(some false):Option Bool)=some false:=by
    by_cases h0:i=0
    ·rw [Af (by omega:¬(i:Int)>0),Ab]
    rw [Ad (by omega:(i:Int)>0),Ae,Cw (by omega) (by omega),show(i:Int)-1=((i-1:Nat):Int) by omega,A9,Ac (by omega)];simp only [Aa];have:=Ok h.asc (show i-1<i by omega) (x:=s.Vols[i-1].Id) (y:=s.Vols[i].Id) (by rw [AQ,Ac (by omega)];rfl) (by rw [AQ,Ac (by omega)];rfl);rw [Af (by omega),Ab]
   rw [a];simp only [Aa,Ab];obtain⟨c,q1,q2⟩:=Bg (body:=λq:Int=>I6 s s.Vols[i] q) (λ(_:Unit) i=>i) 16 (λ_ _=>True) (λb=>b= .inl ())
    (λ_ k hk _=>by
     simp only [I6];rw [Ad (by omega:(k:Int)<16),Ae,Vw _ h.ar (h.root _ hr) hk];simp only [Aa];have:=h.lt _ hr _ (Yi hk);rw [Af (by omega),Ab,ad1 (by omega)]
     exact .inl ⟨(),rfl,trivial⟩)
    (λ_ _=>⟨_,by simp only [I6];rw [Af (by omega:¬((16:Nat):Int)<16),Ab],rfl⟩) (s:=()) trivial
   have q1':Au (λq:Int=>I6 s s.Vols[i] q) 0=some c:=q1;rw [q1',q2];simp only [Aa,By];rw [ad1 (by omega)]
   exact .inl ⟨(),rfl,trivial⟩)
  (λ_ _=>⟨_,by simp only [I7,AC,Ao,Aq,Ab],rfl⟩) (s:=()) trivial
 have h1':Au (λq:Int=>I7 s q) 0=some b:=h1;rw [h1',h2];simp only [Aa,By];rw [Sh s (by omega)];simp only [Aa];rw [Xf _ (by omega) h.ar _ (by omega) h.root];simp only [Aa];have:RV s.Arena.Knots (BB s)=s.Arena.Knots:=by
  have:=WQ h;unfold K5 at this;have:=BR (λz=>z.Arena.Knots) this;exact this
 rw [this];simp
def Ot (x:Leaf):Nat:=bif x.Is==0 then 1 else 0
theorem u7 (l:List Leaf):(l.map Ot).sum<=l.length:=by
 induction l with
 |nil=>simp
 |cons x l ih=>
  have:Ot x<=1:=by unfold Ot;cases x.Is==0<;>simp
  simp only [Cb,O9,A0];omega
theorem Vk (b:Block) (h:b.Leaves.length<=1048576):L7 b=some ((b.Leaves.map Ot).sum:Int):=by
 unfold L7;obtain⟨v,h1,rfl⟩:=Bg (body:=λs:Int×Int=>GZ b s.1 s.2) (λ(s:Int) i=>(s,i)) b.Leaves.length (λk s=>s=(((b.Leaves.take k).map Ot).sum:Nat)) (λv=>v=((b.Leaves.map Ot).sum:Nat))
  (λs k hk hs=>by
   have hx:b.Leaves[k]?=some b.Leaves[k]:=Ac hk;have e:=Qf Ot b.Leaves k hk;have e2:=Nq Ot b.Leaves (k+1);have e3:=u7 b.Leaves;refine .inl ?_;simp only [GZ,AC,Ad hk,Ae,A9,hx,Aa];have e4:Ot b.Leaves[k]=bif b.Leaves[k].Is==0 then 1 else 0:=rfl
   cases hb:b.Leaves[k].Is==0 with
   |true=>
    rw [hb]at e4;simp only [Ae]at e4⊢;rw [ad1 (by omega),CA (by omega) (by omega)];exact⟨_,rfl,by omega⟩
   |false=>
    rw [hb]at e4;simp only [Ab]at e4⊢;rw [ad1 (by omega)]
    exact⟨_,rfl,by omega⟩)
  (λs hs=>⟨s,by simp only [GZ,AC,Ao,Aq,Ab],by rw [AN]at hs;exact hs⟩) (s:=0) (by simp)
 rw [h1];rfl
theorem qQ (f:Flash) (hf:LN f) (hn:nl f.Blocks<=1048576):∃v:Int,MF f=some v/\gR f=some v/\0<=v/\v<=nl f.Blocks:=by
 unfold MF gR;obtain⟨v,h1,h2,h3⟩:=QG (body:=λs:Int×Int=>Lu f s.1 s.2) (body':=λs:Int×Int=>N7 f s.1 s.2) (λ(s:Int) i=>(s,i)) (λ(s:Int) i=>(s,i)) f.Blocks.length (λi n=>0<=n/\n<=(((f.Blocks.take i).map λb=>b.Leaves.length).sum:Nat)) (λv=>0<=v/\v<=nl f.Blocks)
  (λn i hi hs=>by
   have hb:f.Blocks[i]?=some f.Blocks[i]:=Ac hi;have hm:f.Blocks[i]∈f.Blocks:=AE _;have d:=Qf (λb:Block=>b.Leaves.length) f.Blocks i hi;have g:=Nq (λb:Block=>b.Leaves.length) f.Blocks (i+1);unfold nl at hn;have h:=hf.1;have c:=hf.2 _ hm;have j:=u7 f.Blocks[i].Leaves;refine .inl ?_;simp only [Lu,N7,AC,Ad hi,Ae,A9,hb,Aa,Vk _ c];obtain⟨u,q1,rfl⟩:=Bg (body:=λs:Int×Int=>Lt f (i:Int) s.1 s.2) (λ(s:Int) i=>(s,i)) f.Blocks[i].Leaves.length (λk s=>s=n+(bif f.Blocks[i].Bad then 0 else((f.Blocks[i].Leaves.take k).map Ot).sum:Nat)) (λv=>v=n+(bif f.Blocks[i].Bad then 0 else(f.Blocks[i].Leaves.map Ot).sum:Nat))
    (λs k hk hs=>by
     have hx:f.Blocks[i].Leaves[k]?=some f.Blocks[i].Leaves[k]:=Ac hk;have e:=Qf Ot f.Blocks[i].Leaves k hk;have e2:=Nq Ot f.Blocks[i].Leaves (k+1);refine .inl ?_;simp only [Lt,A9,hb,Aa,AC,Ad hk,Ae,hx]
     cases a:f.Blocks[i].Bad with
     |true=>
      rw [a]at hs;simp only [Ai,Ab,Ae]at hs⊢;rw [ad1 (by omega)];exact⟨_,rfl,hs⟩
     |false=>
      rw [a]at hs;simp only [AG,Ab,Ae]at hs⊢;have e4:Ot f.Blocks[i].Leaves[k]=bif f.Blocks[i].Leaves[k].Is==0 then 1 else 0:=rfl
      cases hb:f.Blocks[i].Leaves[k].Is==0 with
      |true=>
       rw [hb]at e4;simp only [Ae]at e4⊢;rw [ad1 (by omega),CA (by omega) (by omega)];exact⟨_,rfl,by omega⟩
      |false=>
       rw [hb]at e4;simp only [Ab]at e4⊢;rw [ad1 (by omega)]
       exact⟨_,rfl,by omega⟩)
    (λs hs=>⟨s,by simp only [Lt,A9,hb,Aa,AC,Ao,Aq,Ab],by rw [AN]at hs;exact hs⟩) (s:=n) (by cases f.Blocks[i].Bad<;>simp)
   rw [q1];simp only [Aa]
   cases f.Blocks[i].Bad with
   |true=>
    simp only [Ae,Ai,Ab];rw [ad1 (by omega)];exact⟨_,rfl,by simp,by omega,by omega⟩
   |false=>
    simp only [Ae,AG,Ab];rw [ad1 (by omega),CA (by omega) (by omega)]
    exact⟨_,rfl,rfl,by omega,by omega⟩)
  (λn hs=>by
   rw [AN]at hs
   exact⟨n,by simp only [Lu,AC,Ao,Aq,Ab],by simp only [N7,AC,Ao,Aq,Ab],hs⟩) (s:=0) (by simp)
 rw [h1,h2];exact⟨v,rfl,rfl,h3⟩
end Go.TI
