/- Chunks of a drawn device. No condition. -/
import Derived.Test.YtiemmklnnjembaaGreatCHD
namespace Go.TI
open Go
def u32 (s:Int):Prop:=0<=s/\s<4294967296
theorem r6 (s:Int) (hs:u32 s):∃v,Az (fun s:Int×Int=>H6 s.1 s.2) (s,0)=some v/\Az (fun s:Int×Int=>HE s.1 s.2) (s,0)=some v/\u32 v:=
 WN (body:=fun s:Int×Int=>H6 s.1 s.2) (body':=fun s:Int×Int=>HE s.1 s.2) (fun(s:Int) i=>(s,i)) 8 (fun _ s=>u32 s) u32
  (fun s i hi hs=>by
   simp only [H6,HE];rw [Ac (by omega:(i:Int)<8),Af,Af,an1 hs.1 hs.2,<-ADh hs.1 hs.2];refine⟨rfl,.inl ?_⟩;have hw:u32 (IntKind.u32.wrap (Int.tdiv s 2)):=by rw [IntKind.wrap_u32];constructor<;>omega
   cases Int.tmod s 2==1
   ·exact⟨_,by rw [Ad,ad1 (by omega)],hw⟩
   ·exact⟨_,by rw [Af,ad1 (by omega)],ABU _ _⟩)
  (fun s hs=>by
   simp only [H6,HE]
   exact⟨rfl,s,rfl,hs⟩) (s:=s) hs
theorem rZ (s:Int) (t:ByteArray) (hs:u32 s) (ht:(L t).length<=9223372036854775806):∃v,PM s t=some v/\Qb s t=some v/\u32 v:=by
 obtain⟨v,h1,h2,h3⟩:=WN (body:=fun s:Int×Int=>Jf t s.1 s.2) (body':=fun s:Int×Int=>Jp t s.1 s.2) (fun(s:Int) i=>(s,i)) (L t).length (fun _ s=>u32 s) u32
  (fun s i hi hs=>by
   obtain⟨v,h1,h2,h3⟩:=r6 (xr s (IntKind.u32.wrap ((L t)[i]).toNat)) (ABU _ _);simp only [Jf,Jp];rw [Ac (by rw [BK];omega:(i:Int)<FJ t),Af,Af,Fc t hi,Aa,Aa,h1,h2]
   exact⟨rfl,.inl ⟨v,by rw [Aa,ad1 (by omega)],h3⟩⟩)
  (fun s hs=>by
   simp only [Jf,Jp];rw [Ae (by rw [BK];omega:¬((L t).length:Int)<FJ t),Ad,Ad]
   exact⟨rfl,s,rfl,hs⟩) (s:=s) hs
 unfold PM Qb;rw [h1,h2];exact⟨v,rfl,rfl,h3⟩
theorem nM (t:ByteArray) (ht:(L t).length<=9223372036854775806):∃v,M4 t=some v/\UX t=some v/\u32 v:=by
 obtain⟨v,h1,h2,h3⟩:=rZ 4294967295 t ⟨by omega,by omega⟩ ht;unfold M4 UX;rw [h1,h2];exact⟨v,rfl,rfl,h3⟩
def four (v:Int):ByteArray:=GS [(IntKind.u8.wrap (Int.fdiv v (2^(min (24:Int).toNat IntKind.u32.bits)))),(IntKind.u8.wrap (Int.fdiv v (2^(min (16:Int).toNat IntKind.u32.bits)))),(IntKind.u8.wrap (Int.fdiv v (2^(min (8:Int).toNat IntKind.u32.bits)))),(IntKind.u8.wrap v)]
theorem Se (v:Int):(L (four v)).length=4:=by rw [four,Ix];rfl
theorem wK (t:ByteArray):RT t=Jh t:=by
 unfold RT Jh;by_cases h:(FJ t)>20000
 ·rw [Ac h];rfl
 ·rw [Ae h,Ad,Ad];rw [BK]at h;obtain⟨v,h1,h2,_⟩:=nM t (by omega);rw [h1,h2];rfl
theorem Tj (t:ByteArray):(20000<(L t).length->Jh t=some (bs [],false))/\((L t).length<=20000->∃v,M4 t=some v/\Jh t=some (t++four v,true)):=by
 unfold Jh;rw [BK];refine⟨fun h=>by rw [Ac (by omega),Af],fun h=>?_⟩;obtain⟨v,h1,h2,_⟩:=nM t (by omega);rw [Ae (by omega),Ad,h1];refine⟨v,rfl,?_⟩;have:JJ v=some (four v):=rfl;rw [Aa,this,Aa,G0 _ _ (by rw [Se];omega),Aa]
theorem nK (t:ByteArray) (ht:(L t).length<=9223372036854775806):∃u ok,JK t=some (u,ok)/\Ov t=some (u,ok)/\(ok=true->(L u).length<=20000/\∃v,M4 u=some v/\t=u++four v)/\(ok=false->u=bs []):=by
 unfold JK Ov;have e4:sb (FJ t) 4=((L t).length:Int)-4:=by rw [BK,C1 (by omega) (by omega)]
 rw [e4];by_cases h4:(L t).length<4
 ·rw [Ac (by omega:((L t).length:Int)-4<0),Ac (by rw [BK];omega:FJ t<4)];exact⟨bs [],false,rfl,rfl,by simp,fun _=>rfl⟩
 ·rw [Ae (by omega:¬((L t).length:Int)-4<0),Ae (by rw [BK];omega:¬FJ t<4)];simp only [Ad];have en:((L t).length:Int)-4=(((L t).length-4:Nat):Int):=by omega
  rw [en,BK];have b:sub t 0 (((L t).length-4:Nat):Int)=some (t.extract 0 ((L t).length-4)):=ET t (i:=0) (by omega) (by omega);have a:sub t (((L t).length-4:Nat):Int) ((L t).length:Int)=some (t.extract ((L t).length-4) (L t).length):=ET t (by omega) (by omega);rw [b,a];simp only [Aa];have hu:(L (t.extract 0 ((L t).length-4))).length=(L t).length-4:=by rw [Hx];simp
  obtain⟨k1,k2⟩:=Tj (t.extract 0 ((L t).length-4));rw [wK];by_cases hb:20000<(L t).length-4
  ·rw [Ac (by omega:(((L t).length-4:Nat):Int)>20000),k1 (by omega)];exact⟨bs [],false,rfl,rfl,by simp,fun _=>rfl⟩
  ·obtain⟨v,h1,h2⟩:=k2 (by omega);rw [Ae (by omega:¬(((L t).length-4:Nat):Int)>20000),h1,h2];have h3:JJ v=some (four v):=rfl;simp only [Ad,Aa,h3,Ar];have c:seq (t.extract ((L t).length-4) (L t).length) (four v)=seq (t.extract 0 ((L t).length-4)++four v) t:=by
    rw [Pc,Pc,D4,Hx,Hx,FC,AA,AA];have e1:List.take ((L t).length-((L t).length-4)) (List.drop ((L t).length-4) (L t))=(L t).drop ((L t).length-4):=AZ (by simp);have e2:List.take ((L t).length-4-0) (List.drop 0 (L t))=(L t).take ((L t).length-4):=by simp
    rw [e1,e2];constructor
    ·intro h;rw [<-h,Bt]
    ·intro h;have h':(L t).take ((L t).length-4)++L (four v)=(L t).take ((L t).length-4)++(L t).drop ((L t).length-4):=by rw [Bt];exact h
     exact(List.append_cancel_left h').symm
   rw [c]
   cases hs:seq (t.extract 0 ((L t).length-4)++four v) t with
   |false=>exact⟨bs [],false,rfl,rfl,by simp,fun _=>rfl⟩
   |true=>
    rw [JE,AA]at hs;exact⟨_,true,rfl,rfl,fun _=>⟨by omega,v,h1,hs.symm⟩,by simp⟩
theorem II (n:Nat) (h:n<=1099511627776):∃s,HT (n:Int)=some s/\L s=Cn n:=by
 unfold HT;obtain⟨m,o,h1,h2,h3,h4⟩:=aP (body:=fun s:Int×List Int=>Pe s.1 s.2) (fun _ _=>rfl) n [] (by simpa using h);rw [h1,Aa];have:IntKind.u8.wrap (m:Int)=m:=by rw [IntKind.wrap_u8];omega
 rw [this,CF (by simp only [Al,Bi]at h3⊢;omega),Aa];refine⟨_,rfl,?_⟩;rw [Ix,h4];simp
def AB3 (t:ByteArray) (at_:Int) (r:Int×Int×Bool):Prop:=
 (r.2.2=false/\r.1=0/\r.2.1=0)\/(r.2.2=true/\∃(a b n:Nat),at_=a/\r.2.1=b/\r.1=n/\a<b/\b<=(L t).length/\n<=1000000000/\Cn n=((L t).drop a).take (b-a))
theorem Vw (l:List UInt8) (a k:Nat) (h:a+k<l.length):(l.drop a).take (k+1)=(l.drop a).take k++ [l[a+k]]:=by
 rw [Av (by simp;omega),Rh]
theorem e9 (k:Nat) (h:k<5):(128:Nat)^k<=268435456:=by
 have:k<=4:=by omega
 calc 128^k<=128^4:=Nat.pow_le_pow_right (by omega) this
  _=268435456:=by decide
theorem UK:∀ds:List UInt8,EE ds<128^ds.length
 |[]=>by simp [EE]
 |d::ds=>by
  have:=UK ds;simp only [EE,Ax,UG];omega
theorem AA9 (x k:Nat) (hx:x<128) (hk:k<5):shl .i64 (x:Int) (ml 7 (k:Int))=some ((x*128^k:Nat):Int):=by
 have h7:ml 7 (k:Int)=((7*k:Nat):Int):=by rw [Nt (by omega) (by omega)];omega
 unfold shl;rw [h7,A0 (by omega)];have e:(2:Int)^(min ((7*k:Nat):Int).toNat IntKind.i64.bits)=((128^k:Nat):Int):=by
  have hb:IntKind.i64.bits=64:=rfl;have h128:(128:Nat)^k=2^(7*k):=by rw [Nat.pow_mul]
  rw [hb,B6,Nat.min_eq_left (by omega),h128]
  norm_cast
 rw [e];have hp:=e9 k hk;have hm:x*128^k<=128*268435456:=Zw (by omega) hp;have ec:(x:Int)*((128^k:Nat):Int)=((x*128^k:Nat):Int):=by norm_cast
 rw [ec,Nc (by omega) (by omega)]
theorem bH (x:Nat):Int.tmod (x:Int) 128=((x %128:Nat):Int):=rfl
theorem Ke (t:ByteArray) (at_:Int) (ht:(L t).length<=4611686018427387904) (p:oI at_):∃r,I9 t at_=some r/\LA t at_=some r/\AB3 t at_ r:=by
 have fails:∀(at_:Int),(at_<0\/((L t).length:Int)<=at_)->oI at_->LA t at_=some (0,0,false):=by
  intro at_ h p;unfold LA;rw [AB];simp only [Gy];rw [Ac (by omega:(0:Int)<5),Af];by_cases h0:at_>=0
  ·rw [Ac h0,Af,BK,C1 (by omega) (by omega),Ae (by omega)];rfl
  ·rw [Ae h0];rfl
 by_cases h5:0<=at_/\at_<(L t).length
 ·obtain⟨a,rfl⟩:=Dt h5.1;have ha:a<(L t).length:=by omega
  have key:∀(B1:Int×Int×Int->Option ((Int×Int×Int)⊕((Unit)⊕((Int×Int×Bool))))) (B2:Int×Int->Option ((Int×Int)⊕((Unit)⊕((Int×Int×Bool))))),(∀n sc i,B1 (n,sc,i)=Dw t (a:Int) n sc i)->(∀n k,B2 (n,k)=Gy t (a:Int) n k)->∀(m k:Nat),k+m=5->a+k<=(L t).length->(∀d∈((L t).drop a).take k,128<=d.toNat)->
    ∃r,(Az B1 (((EE (((L t).drop a).take k):Nat):Int),((128^k:Nat):Int),((a+k:Nat):Int))=some r/\Az B2 (((EE (((L t).drop a).take k):Nat):Int),(k:Int))=some r)/\(r= .inl ()\/∃q,r= .inr q/\AB3 t (a:Int) q):=by
   intro B1 B2 u v m
   induction m with
   |zero=>
    intro k hk h6 hd;have f:k=5:=by omega
    subst f;refine⟨.inl (),⟨?_,?_⟩,.inl rfl⟩
    ·rw [AB];simp only [u,Dw];rw [C5 (by omega) (by omega),Ae (by omega:¬((a+5:Nat):Int)<(a:Int)+5)];cases decide (((a+5:Nat):Int)<FJ t)<;>rfl
    ·rw [AB];simp only [v,Gy];rw [Ae (by omega:¬((5:Nat):Int)<5)];rfl
   |succ m ih=>
    intro k hk h6 hd;rw [AB,AB B2];simp only [u,v,Dw,Gy];have f:k<5:=by omega
    rw [C5 (b:=5) (by omega) (by omega),Ac (by omega:((a+k:Nat):Int)<(a:Int)+5),Ac (by omega:(k:Int)<5),Ac (by omega:(a:Int)>=0),BK,C1 (by omega) (by omega)];by_cases w:a+k<(L t).length
    ·rw [Ac (by omega:((a+k:Nat):Int)<((L t).length:Int)),Ac (by omega:(a:Int)<((L t).length:Int)-k)];have eak:ad (a:Int) (k:Int)=((a+k:Nat):Int):=by rw [C5 (by omega) (by omega)];omega
     simp only [Af,Aa,Fc t w,eak];have hx:=iT ((L t)[a+k]);have g:=Vw (L t) a k w;have l:(((L t).drop a).take k).length=k:=by simp;omega
     have j:=Mx (((L t).drop a).take k) [(L t)[a+k]];rw [<-g,l]at j;have h7:=UK (((L t).drop a).take k);rw [l]at h7;have hp:=e9 k f;generalize a3:(L t)[a+k]=x at hx g j;simp only [EE,Nat.mul_zero,ES]at j;have hw:IntKind.i64.wrap (x.toNat:Int)=x.toNat:=Nc (by omega) (by omega);have a1:x.toNat %128*128^k<=127*268435456:=Zw (by omega) hp;have emul:ml ((x.toNat %128:Nat):Int) ((128^k:Nat):Int)=((x.toNat %128*128^k:Nat):Int):=by
      have ec:((x.toNat %128:Nat):Int)*((128^k:Nat):Int)=((x.toNat %128*128^k:Nat):Int):=by norm_cast
      rw [Nt (by rw [ec];omega) (by rw [ec];omega),ec]
     have enew:ad (((EE (((L t).drop a).take k):Nat)):Int) ((x.toNat %128*128^k:Nat):Int)=((EE (((L t).drop a).take (k+1)):Nat):Int):=by
      rw [C5 (by omega) (by omega),j,sD (128^k)];omega
     rw [hw,bH,AA9 _ k (by omega) f];simp only [Aa,emul,enew];by_cases o:x.toNat<128
     ·rw [Ac (by omega:(x.toNat:Int)<128),Ae (by omega:¬(x.toNat:Int)>=128)];simp only [Af,Ad];have ek1:ad ((a+k:Nat):Int) 1=((a+k+1:Nat):Int):=ad1 (by omega);have c:=aO (((L t).drop a).take k) x hd o;rw [<-g]at c;have h8:(((L t).drop a).take k≠ [])↔0<k:=by
       rw [<-Hz,l]
      rw [h8]at c;have y:sub t (a:Int) ((a+k+1:Nat):Int)=some (t.extract a (a+k+1)):=ET t (by omega) (by omega);rw [ek1,y];by_cases a2:EE (((L t).drop a).take (k+1))>1000000000
      ·rw [Ac (by omega:((EE (((L t).drop a).take (k+1)):Nat):Int)>1000000000)];refine⟨.inr (0,0,false),⟨rfl,?_⟩,.inr ⟨_,rfl,.inl ⟨rfl,rfl,rfl⟩⟩⟩;cases(x.toNat:Int)==0
       ·rfl
       ·cases decide ((k:Int)>0)<;>rfl
      ·rw [Ae (by omega:¬((EE (((L t).drop a).take (k+1)):Nat):Int)>1000000000)];obtain⟨s,h9,a0⟩:=II (EE (((L t).drop a).take (k+1))) (by omega);simp only [Ad,Aa,h9];have z:seq s (t.extract a (a+k+1))=decide (¬(x.toNat=0/\0<k)):=by
        rw [Pc,a0,Hx,show a+k+1-a=k+1 by omega,FC,AA,AA];exact c
       rw [z];by_cases hz:x.toNat=0/\0<k
       ·rw [Ae (fun e=>e hz)];refine⟨.inr (0,0,false),⟨rfl,?_⟩,.inr ⟨_,rfl,.inl ⟨rfl,rfl,rfl⟩⟩⟩;have:((x.toNat:Int)==0)=true:=by rw [hz.1];rfl
        rw [this,Ac (by omega:(k:Int)>0)];rfl
       ·rw [Ac hz];refine⟨.inr (((EE (((L t).drop a).take (k+1)):Nat):Int),((a+k+1:Nat):Int),true),⟨rfl,?_⟩,.inr ⟨_,rfl,.inr ⟨rfl,a,a+k+1,_,rfl,rfl,rfl,by omega,by omega,by omega,?_⟩⟩⟩
        ·by_cases h4:x.toNat=0
         ·have:((x.toNat:Int)==0)=true:=by rw [h4];rfl
          rw [this,Ae (by omega:¬(k:Int)>0)];rfl
         ·have:((x.toNat:Int)==0)=false:=by simpa using h4
          rw [this];rfl
        ·rw [show a+k+1-a=k+1 by omega];exact c.2 hz
     ·rw [Ae (by omega:¬(x.toNat:Int)<128),Ac (by omega:(x.toNat:Int)>=128)];simp only [Af,Ad];have e1:ml ((128^k:Nat):Int) 128=((128^(k+1):Nat):Int):=by
       rw [Nt (by omega) (by omega),UG];norm_cast
      have e2:ad ((a+k:Nat):Int) 1=((a+(k+1):Nat):Int):=ad1 (by omega);have e3:ad (k:Int) 1=((k+1:Nat):Int):=ad1 (by omega);rw [e1,e2,e3]
      exact ih (k+1) (by omega) (by omega) (by
       rw [g];intro d hd'
       rcases Aj.1 hd' with hd'|hd'
       ·exact hd d hd'
       ·simp at hd';subst hd';omega)
    ·rw [Ae (by omega:¬((a+k:Nat):Int)<((L t).length:Int)),Ae (by omega:¬(a:Int)<((L t).length:Int)-k)];exact⟨.inl (),⟨rfl,rfl⟩,.inl rfl⟩
  obtain⟨r,⟨h1,h2⟩,h3⟩:=key (fun s=>Dw t (a:Int) s.1 s.2.1 s.2.2) (fun s=>Gy t (a:Int) s.1 s.2) (fun _ _ _=>rfl) (fun _ _=>rfl) 5 0 rfl (by omega) (by simp);unfold I9 LA;have hw:BR (a:Int) 0 (FJ t)=some true:=by
   unfold BR;rw [Ac (by omega:(a:Int)>=0),Af,BK,Ac (by omega)]
  rw [hw];simp only [Aa,Ar,Ad];simp only [HG,EE,Nat.pow_zero,ES]at h1 h2;rw [show((0:Nat):Int)=0 from rfl,show((1:Nat):Int)=1 from rfl]at h1;rw [show((0:Nat):Int)=0 from rfl]at h2;rw [h1,h2]
  rcases h3 with rfl|⟨q,rfl,h3⟩
  ·exact⟨_,rfl,rfl,.inl ⟨rfl,rfl,rfl⟩⟩
  ·exact⟨q,rfl,rfl,h3⟩
 ·have hf:=fails at_ (by omega) p;refine⟨(0,0,false),?_,hf,.inl ⟨rfl,rfl,rfl⟩⟩;unfold I9;by_cases h0:0<=at_/\at_<=(L t).length
  ·have hw:BR at_ 0 (FJ t)=some true:=by
    unfold BR;rw [Ac (by omega:at_>=0),Af,BK,Ac (by omega)]
   rw [hw];simp only [Aa,Ar,Ad];rw [AB];simp only [Dw];rw [Ae (by rw [BK];omega:¬at_<FJ t)];rfl
  ·have hw:BR at_ 0 (FJ t)=some false:=by
    unfold BR;by_cases h1:at_>=0
    ·rw [Ac h1,Af,BK,Ae (by omega)]
    ·rw [Ae h1,Ad]
   rw [hw];rfl
end Go.TI
namespace Go.TI
open Go
theorem mY:ST=BR:=rfl
theorem DJ {α:Type} {l:List α} {i:Int} {x:α} (h:gi l i=some x):0<=i/\l[i.toNat]?=some x:=by
 unfold gi at h;split at h
 ·exact⟨by assumption,h⟩
 ·cases h
def gZ (f:Flash):Prop:=f.Blocks.length<=1048576/\∀b∈f.Blocks,b.Leaves.length<=1048576
theorem WU (x a b:Int):BR x a b=some (decide (a<=x)&&decide (x<=b)):=by
 unfold BR;by_cases h:x>=a
 ·rw [Ac h,Af,CU]
 ·rw [Ae h,Ad,Bool.false_and]
end Go.TI
namespace Go.TI
open Go
theorem Tl (p:Page):∃v,Jl p=some v/\Sa p=some v/\(v=true->(p.Kind=1\/p.Kind=2)/\(1<=p.Seq/\p.Seq<=1000000000)/\(1<=p.Tx/\p.Tx<=1000000000)/\(1<=p.Count/\p.Count<=9)/\(0<=p.Part/\p.Part<p.Count)/\FJ p.Text<=90):=by
 unfold Jl Sa;rw [mY];simp only [WU,Aa];by_cases h1:1<=p.Seq/\p.Seq<=1000000000
 ·by_cases h2:1<=p.Tx/\p.Tx<=1000000000
  ·by_cases h3:1<=p.Count/\p.Count<=9
   ·have e:sb p.Count 1=p.Count-1:=C1 (by omega) (by omega);rw [e];by_cases h4:0<=p.Part/\p.Part<=p.Count-1
    ·by_cases h5:FJ p.Text>90
     ·refine⟨false,?_,?_,by simp⟩
      ·cases hk:(decide (1<=p.Kind)&&decide (p.Kind<=2))<;>simp [h1,h2,h3,h4,h5]
      ·simp [h1,h2,h3,h4,h5]
     ·by_cases k2:p.Kind=2
      ·exact⟨true,by simp [h1,h2,h3,h4,h5,k2],by simp [h1,h2,h3,h4,h5,k2],fun _=>⟨.inr k2,h1,h2,h3,⟨h4.1,by omega⟩,by omega⟩⟩
      ·by_cases k1:p.Kind=1
       ·exact⟨p.Count==1,by simp [h1,h2,h3,h4,h5,k1],by simp [h1,h2,h3,h4,h5,k1],fun _=>⟨.inl k1,h1,h2,h3,⟨h4.1,by omega⟩,by omega⟩⟩
       ·have hk:(decide (1<=p.Kind)&&decide (p.Kind<=2))=false:=by
         rw [CH,AU,AU];omega
        have e1:(p.Kind==1)=false:=by simpa using k1
        have e2:(p.Kind==2)=false:=by simpa using k2
        exact⟨false,by simp [hk],by simp [h1,h2,h3,h4,h5,e1,e2],by simp⟩
    ·have e4:(decide (0<=p.Part)&&decide (p.Part<=p.Count-1))=false:=by
      rw [CH,AU,AU];omega
     refine⟨false,?_,?_,by simp⟩
     ·cases hk:(decide (1<=p.Kind)&&decide (p.Kind<=2))<;>simp [h1,h2,h3,e4]
     ·simp [h1,h2,h3,e4]
   ·have e3:(decide (1<=p.Count)&&decide (p.Count<=9))=false:=by
     rw [CH,AU,AU];omega
    refine⟨false,?_,?_,by simp⟩
    ·cases hk:(decide (1<=p.Kind)&&decide (p.Kind<=2))<;>simp [h1,h2,e3]
    ·simp [h1,h2,e3]
  ·have e2:(decide (1<=p.Tx)&&decide (p.Tx<=1000000000))=false:=by
    rw [CH,AU,AU];omega
   refine⟨false,?_,?_,by simp⟩
   ·cases hk:(decide (1<=p.Kind)&&decide (p.Kind<=2))<;>simp [h1,e2]
   ·simp [h1,e2]
 ·have e1:(decide (1<=p.Seq)&&decide (p.Seq<=1000000000))=false:=by
   rw [CH,AU,AU];omega
  refine⟨false,?_,?_,by simp⟩
  ·cases hk:(decide (1<=p.Kind)&&decide (p.Kind<=2))<;>simp [e1]
  ·simp [e1]
def ZY:Page:=Page.mk 0 0 0 0 0 (bs [])
theorem Gv (u:ByteArray) (a:Int) (hu:(L u).length<=20000) (ha:oI a):Ej (Ek.mk u a true)=some (0,Ek.mk u a true):=by
 obtain⟨r,h1,_,_⟩:=Ke u a (by omega) ha;unfold Ej;simp only [h1,Aa,Af]
theorem IH (u:ByteArray) (a:Int) (hu:(L u).length<=20000) {r:Int×Int×Bool} (h:I9 u a=some r):Ej (Ek.mk u a false)=some (bif r.2.2 then(r.1,Ek.mk u r.2.1 false)else(0,Ek.mk u a true)):=by
 unfold Ej;simp only [h,Aa,Ad];cases r.2.2<;>rfl
theorem O5 (l:List UInt8) {a b:Nat} (h:a<=b):l.drop a=(l.drop a).take (b-a)++l.drop b:=by
 have:=(Bt (b-a) (l.drop a)).symm;rw [Cy,show a+(b-a)=b by omega]at this;exact this
theorem TU (p:Page) (u:ByteArray) (k:UInt8) (n1 n2 n3 n4:Nat) (hp:Jl p=some true) (hk:p.Kind=(k.toNat:Int)) (h1:p.Seq=n1) (h2:p.Tx=n2) (h3:p.Part=n3) (h4:p.Count=n4)
  (b1:n1<=1000000000) (b2:n2<=1000000000) (b3:n3<=1000000000) (b4:n4<=1000000000) (hu:(L u).length<=20000) (e:L u=[k]++Cn n1++Cn n2++Cn n3++Cn n4++L p.Text):EK p=Jh u:=by
 obtain⟨s1,q1,r1⟩:=II n1 (by omega);obtain⟨s2,q2,r2⟩:=II n2 (by omega);obtain⟨s3,q3,r3⟩:=II n3 (by omega);obtain⟨s4,q4,r4⟩:=II n4 (by omega);have hl:=BH List.length e;simp only [Ag,Al]at hl;have hb:L6 p.Kind=some (GS [IntKind.u8.wrap p.Kind]):=rfl;have a:L (GS [IntKind.u8.wrap p.Kind])=[k]:=by
  rw [Ix,hk,IntKind.wrap_u8];have:=iT k;have e2:((k.toNat:Int) %256).toNat=k.toNat:=by omega
  simp only [BN,sE,e2,UInt8.ofNat_toNat]
 unfold EK;rw [hp];simp only [Aa,Ar,Ad,hb,h1,h2,h3,h4,q1,q2,q3,q4];rw [G0 _ _ (by rw [a,r1];simp only [Al];omega),Aa];rw [G0 _ _ (by rw [D4,a,r1,r2];simp only [Ag,Al];omega),Aa];rw [G0 _ _ (by rw [D4,D4,a,r1,r2,r3];simp only [Ag,Al];omega),Aa];rw [G0 _ _ (by rw [D4,D4,D4,a,r1,r2,r3,r4];simp only [Ag,Al];omega),Aa];rw [G0 _ _ (by rw [D4,D4,D4,D4,a,r1,r2,r3,r4];simp only [Ag,Al];omega),Aa];have:GS [IntKind.u8.wrap p.Kind]++s1++s2++s3++s4++p.Text=u:=by
  apply HK;rw [D4,D4,D4,D4,D4,a,r1,r2,r3,r4,e]
 rw [this]
 cases Jh u with
 |none=>rfl
 |some v=>rfl
theorem IM (t:ByteArray) (ht:(L t).length<=9223372036854775806):∃p ok,DX t=some (p,ok)/\Ox t=some (p,ok)/\(ok=false->p=ZY)/\(ok=true->Jl p=some true):=by
 obtain⟨u,uok,k,m,n,o⟩:=nK t ht;unfold DX Ox;rw [k,m];simp only [Aa];have o1:oI 1:=⟨by omega,by omega⟩
 cases uok with
 |false=>
  have:=o rfl;subst this;have hz:(L (bs [])).length<=20000:=by rw [DV];simp
  simp only [Be,Af,Aa,Gv _ _ hz o1];exact⟨ZY,false,rfl,rfl,fun _=>rfl,by simp⟩
 |true=>
  obtain⟨f,v,hv,q⟩:=n rfl;simp only [Ar,Ad,Aa];by_cases he:(L u).length<1
  ·have h:seq u (bs [])=true:=by
    rw [Pc,AA,DV];exact A8 (by omega)
   rw [Ac (by rw [BK];omega:FJ u<1),h];simp only [Af,Gv _ _ f o1,Aa];exact⟨ZY,false,rfl,rfl,fun _=>rfl,by simp⟩
  ·have h:seq u (bs [])=false:=by
    rw [Pc,AU,DV];intro e;rw [e]at he;simp at he
   rw [Ae (by rw [BK];omega:¬FJ u<1),h];simp only [Ad];have four_:∀(B:Int×Int×Int×Int×Int×Int->Option ((Int×Int×Int×Int×Int×Int)⊕((Int×Int×Int×Int×Int)⊕((Page×Bool))))),(∀x y a b c d,B (x,y,a,b,c,d)=Eh (u,true) x y a b c d)->
     ∃(a:Int) (m1 m2 m3 m4:Int) (bad:Bool),(∃c1 c2 c3,Ej (Ek.mk u 1 false)=some (m1,c1)/\Ej c1=some (m2,c2)/\Ej c2=some (m3,c3)/\Ej c3=some (m4,Ek.mk u a bad))/\
      Az B (1,0,0,0,0,0)=some (bif bad then .inr (ZY,false)else .inl (a,m1,m2,m3,m4))/\(bad=false->∃(a1 a2 a3 a4 n1 n2 n3 n4:Nat),m1=n1/\m2=n2/\m3=n3/\m4=n4/\a=a4/\1<a1/\a1<a2/\a2<a3/\a3<a4/\a4<=(L u).length/\n1<=1000000000/\n2<=1000000000/\n3<=1000000000/\n4<=1000000000/\
       Cn n1=((L u).drop 1).take (a1-1)/\Cn n2=((L u).drop a1).take (a2-a1)/\Cn n3=((L u).drop a2).take (a3-a2)/\Cn n4=((L u).drop a3).take (a4-a3)):=by
    intro B hB;obtain⟨r1,p1,q1,w1⟩:=Ke u 1 (by omega) o1;have g1:=IH u 1 f p1;rw [AB,hB];unfold Eh;rw [Ac (by omega:(0:Int)<4),Af,q1,Aa]
    rcases w1 with⟨w1,w2,w3⟩|⟨w1,a0',a1,n1,z0,z1,z2,z3,z4,z5,z6⟩
    ·rw [w1]at g1⊢;exact⟨1,0,0,0,0,true,⟨_,_,_,g1,Gv u 1 f o1,Gv u 1 f o1,Gv u 1 f o1⟩,rfl,by simp⟩
    have ea0:a0'=1:=by omega
    subst ea0;rw [w1]at g1⊢;have x1:oI r1.2.1:=⟨by omega,by omega⟩;simp only [Ar,Ad,Af]at g1⊢;rw [show((0:Int)==0)=true from rfl,Af,show ad 0 1=1 from ad1 (i:=0) (by omega)];simp only;obtain⟨r2,p2,q2,y1⟩:=Ke u r1.2.1 (by omega) x1;have g2:=IH u r1.2.1 f p2;rw [AB,hB];unfold Eh;rw [Ac (by omega:(1:Int)<4),Af,q2,Aa]
    rcases y1 with⟨y1,_,_⟩|⟨y1,b0,a2,n2,y2,y3,y4,y5,y6,y7,y8⟩
    ·rw [y1]at g2⊢;exact⟨r1.2.1,r1.1,0,0,0,true,⟨_,_,_,g1,g2,Gv u _ f x1,Gv u _ f x1⟩,rfl,by simp⟩
    have eb:b0=a1:=by omega
    subst eb;rw [y1]at g2⊢;have x2:oI r2.2.1:=⟨by omega,by omega⟩;simp only [Ar,Ad,Af]at g2⊢;rw [show((1:Int)==0)=false from rfl,Ad,show((1:Int)==1)=true from rfl,Af,show ad 1 1=2 from ad1 (i:=1) (by omega)];simp only;obtain⟨r3,p3,q3,k1⟩:=Ke u r2.2.1 (by omega) x2;have g3:=IH u r2.2.1 f p3;rw [AB,hB];unfold Eh;rw [Ac (by omega:(2:Int)<4),Af,q3,Aa]
    rcases k1 with⟨k1,_,_⟩|⟨k1,c0,a3,n3,k2,k3,k4,k5,k6,k7,k8⟩
    ·rw [k1]at g3⊢;exact⟨r2.2.1,r1.1,r2.1,0,0,true,⟨_,_,_,g1,g2,g3,Gv u _ f x2⟩,rfl,by simp⟩
    have ec:c0=a2:=by omega
    subst ec;rw [k1]at g3⊢;have x3:oI r3.2.1:=⟨by omega,by omega⟩;simp only [Ar,Ad,Af]at g3⊢;rw [show((2:Int)==0)=false from rfl,Ad,show((2:Int)==1)=false from rfl,Ad,show((2:Int)==2)=true from rfl,Af,show ad 2 1=3 from ad1 (i:=2) (by omega)];simp only;obtain⟨r4,p4,q4,l1⟩:=Ke u r3.2.1 (by omega) x3;have g4:=IH u r3.2.1 f p4;rw [AB,hB];unfold Eh;rw [Ac (by omega:(3:Int)<4),Af,q4,Aa]
    rcases l1 with⟨l1,_,_⟩|⟨l1,d0,a4,n4,l2,l3,l4,l5,l6,l7,l8⟩
    ·rw [l1]at g4⊢;exact⟨r3.2.1,r1.1,r2.1,r3.1,0,true,⟨_,_,_,g1,g2,g3,g4⟩,rfl,by simp⟩
    have ed:d0=a3:=by omega
    subst ed;rw [l1]at g4⊢;simp only [Ar,Ad,Af]at g4⊢;rw [show((3:Int)==0)=false from rfl,Ad,show((3:Int)==1)=false from rfl,Ad,show((3:Int)==2)=false from rfl,Ad,show((3:Int)==3)=true from rfl,Af,show ad 3 1=4 from ad1 (i:=3) (by omega)];simp only;rw [AB,hB];unfold Eh;rw [Ae (by omega:¬(4:Int)<4),Ad];exact⟨r4.2.1,r1.1,r2.1,r3.1,r4.1,false,⟨_,_,_,g1,g2,g3,g4⟩,rfl,fun _=>⟨b0,c0,d0,a4,n1,n2,n3,n4,z2,y4,k4,l4,l3,z3,y5,k5,l5,l6,z5,y7,k7,l7,z6,y8,k8,l8⟩⟩
   obtain⟨a,m1,m2,m3,m4,bad,⟨c1,c2,c3,f1,f2,f3,f4⟩,f5,f6⟩:=four_ (fun s:Int×Int×Int×Int×Int×Int=>Eh (u,true) s.1 s.2.1 s.2.2.1 s.2.2.2.1 s.2.2.2.2.1 s.2.2.2.2.2) (fun _ _ _ _ _ _=>rfl);rw [f5];simp only [f1,f2,f3,f4,Aa]
   cases bad with
   |true=>exact⟨ZY,false,rfl,rfl,fun _=>rfl,by simp⟩
   |false=>
    obtain⟨a1,a2,a3,a4,n1,n2,n3,n4,rfl,rfl,rfl,rfl,rfl,i1,i2,i3,i4,i5,j1,j2,j3,j4,s1,s2,s3,s4⟩:=f6 rfl;simp only [Ad,Aa,Co];have r:sx u 0=some (((L u)[0]'(by omega)).toNat:Int):=Fc u (i:=0) (by omega);have j:sub u (a4:Int) (FJ u)=some (u.extract a4 (L u).length):=by rw [BK];exact ET u (by omega) (by omega)
    rw [r,j];simp only [Aa];have hk:=iT ((L u)[0]'(by omega));have hw:IntKind.i64.wrap (((L u)[0]'(by omega)).toNat:Int)=((L u)[0]'(by omega)).toNat:=Nc (by omega) (by omega);rw [hw];obtain⟨po,po1,po2,_⟩:=Tl (Page.mk (((L u)[0]'(by omega)).toNat:Int) n1 n2 n3 n4 (u.extract a4 (L u).length));rw [po2];simp only [Aa]
    cases po with
    |false=>
     have:EK (Page.mk (((L u)[0]'(by omega)).toNat:Int) n1 n2 n3 n4 (u.extract a4 (L u).length))=some (bs [],false):=by
      unfold EK;rw [po1];rfl
     rw [this];exact⟨ZY,false,rfl,rfl,fun _=>rfl,by simp⟩
    |true=>
     have hT:L (u.extract a4 (L u).length)=(L u).drop a4:=by
      rw [Hx];exact AZ (by simp)
     have g:L u=[(L u)[0]'(by omega)]++Cn n1++Cn n2++Cn n3++Cn n4++L (u.extract a4 (L u).length):=by
      rw [hT,s1,s2,s3,s4];have h0:L u=[(L u)[0]'(by omega)]++(L u).drop 1:=by
       have:=Bq (l:=L u) (i:=0) (by omega);simpa using this
      have d1:=O5 (L u) (a:=1) (b:=a1) (by omega);have d2:=O5 (L u) (a:=a1) (b:=a2) (by omega);have d3:=O5 (L u) (a:=a2) (b:=a3) (by omega);have d4:=O5 (L u) (a:=a3) (b:=a4) (by omega);simp only [Ap];rw [<-d4,<-d3,<-d2,<-d1];exact h0
     rw [TU _ u ((L u)[0]'(by omega)) n1 n2 n3 n4 po1 rfl rfl rfl rfl rfl j1 j2 j3 j4 f g];obtain⟨v',hv',hs'⟩:=(Tj u).2 f;rw [hv]at hv'
     injection hv' with hv'
     subst hv';rw [hs',Aa];have:seq (u++four v) t=true:=by rw [JE,AA];exact q.symm
     simp only [Ar,Ad,Aa,this];exact⟨_,true,rfl,rfl,by simp,fun _=>po1⟩
end Go.TI
namespace Go.TI
open Go
def nl (l:List Block):Nat:=(l.map fun b=>b.Leaves.length).sum
def Py (f:Flash) (y:Ak):Prop:=∃b x,gi f.Blocks y.Block=some b/\gi b.Leaves y.Leaf=some x/\(x.Is==1)=true/\DX x.Text=some (y.Page,true)
theorem P9 (f:Flash) (hf:gZ f) {i k:Nat} {b:Block} {x:Leaf} (hb:f.Blocks[i]?=some b) (hx:b.Leaves[k]?=some x):JN f i k=some (bif x.Is==1 then(x.Text,true)else(bs [],false)):=by
 have h1:=(Ah.1 hb).1;have h2:=(Ah.1 hx).1;have h3:=hf.1;have h4:=hf.2 b (AI hb);unfold JN;rw [C1 (by rw [Cq];omega) (by rw [Cq];omega),WU,Cq,Ac (by omega:(0:Int)<=(i:Int)),Ac (by omega:(i:Int)<=(f.Blocks.length:Int)-1)];simp only [Aa,IQ,Ar,Ad,AH,hb];rw [C1 (by rw [Cq];omega) (by rw [Cq];omega),WU,Cq,Ac (by omega:(0:Int)<=(k:Int)),Ac (by omega:(k:Int)<=(b.Leaves.length:Int)-1)];simp only [Aa,IQ,Ar,Ad,hx]
 cases h:x.Is==1 with
 |true=>
  have:(x.Is !=1)=false:=by simp [bne,h]
  simp [this]
 |false=>
  have:(x.Is !=1)=true:=by simp [bne,h]
  simp [this]
theorem QZ (f:Flash) (hf:gZ f) (hT:∀b∈f.Blocks,∀x∈b.Leaves,(L x.Text).length<=1048576) (hn:nl f.Blocks<=1048576):
  ∃X,Az (fun s:List Ak×Int=>Ee f s.1 s.2) ([],0)=some X/\Az (fun s:Int×List Ak=>Gx f s.1 s.2) (0,[])=some X/\X.length<=nl f.Blocks/\∀y∈X,Py f y:=by
 refine RK (body:=fun s:List Ak×Int=>Ee f s.1 s.2) (body':=fun s:Int×List Ak=>Gx f s.1 s.2) (fun s i=>(s,i)) (fun s i=>(i,s)) f.Blocks.length (fun i out=>out.length<=((f.Blocks.take i).map fun b=>b.Leaves.length).sum/\∀y∈out,Py f y) (fun X=>X.length<=nl f.Blocks/\∀y∈X,Py f y) ?_ ?_ (s:=[]) ⟨by simp,by simp⟩
 ·intro out i hi ⟨a,c⟩;have hb:f.Blocks[i]?=some f.Blocks[i]:=Ab hi;have hm:f.Blocks[i]∈f.Blocks:=AK _;have h:=OX (fun b:Block=>b.Leaves.length) f.Blocks i hi;have j:=My (fun b:Block=>b.Leaves.length) f.Blocks (i+1);unfold nl at hn;have l:=hf.1;refine .inl ?_;simp only [Ee,Gx,AQ,Ac hi,Af,AH,hb,Aa];obtain⟨u,q1,q2,q3⟩:=RK (body:=fun s:List Ak×Int=>E8 f (i:Int) s.1 s.2) (body':=fun s:Int×List Ak=>HF (i:Int) f.Blocks[i] s.1 s.2) (fun s i=>(s,i)) (fun s i=>(i,s)) f.Blocks[i].Leaves.length (fun k u=>u.length<=out.length+k/\∀y∈u,Py f y) (fun u=>u.length<=out.length+f.Blocks[i].Leaves.length/\∀y∈u,Py f y)
   (fun u k hk hu=>by
    have hx:f.Blocks[i].Leaves[k]?=some f.Blocks[i].Leaves[k]:=Ab hk;have e:f.Blocks[i].Leaves[k]∈f.Blocks[i].Leaves:=AK _;have m:=hf.2 _ hm
    have g:∀y:Ak,ap 72 u [y]=some (u++ [y]):=fun y=>CF (by simp only [Al];omega)
    refine .inl ?_;obtain⟨p,ok,r1,r2,r3,r4⟩:=IM f.Blocks[i].Leaves[k].Text (by have:=hT _ hm _ e;omega);simp only [E8,HF,AQ,Ac hk,Af,AH,hb,hx,Aa,P9 f hf hb hx,r2,g];have n:=hu.1
    cases d:f.Blocks[i].Leaves[k].Is==1 with
    |false=>
     obtain⟨p',ok',t1,_⟩:=IM (bs []) (by rw [DV];simp);simp only [Ad,Aa,t1];refine⟨u,by rw [ad1 (by omega)],by cases ok<;>(simp only [Af,Ad,Aa];rw [ad1 (by omega)]),by omega,hu.2⟩
    |true=>
     simp only [Af,Aa,r1]
     cases ok with
     |false=>exact⟨u,by simp only [Ad];rw [ad1 (by omega)],by simp only [Ad,Aa];rw [ad1 (by omega)],by omega,hu.2⟩
     |true=>
      refine⟨u++ [Ak.mk i k p],by simp only [Af];rw [ad1 (by omega)],by simp only [Af,Aa];rw [ad1 (by omega)],by simp only [Ag,Al];omega,fun y hy=>?_⟩
      rcases Aj.1 hy with hy|hy
      ·exact hu.2 y hy
      ·rw [A6]at hy;subst hy
       exact⟨_,_,by simp only [AH];exact hb,by simp only [AH];exact hx,d,r1⟩)
   (fun u hu=>⟨u,by simp only [E8,AH,hb,Aa,AQ,Aw,A5,Ad],by simp only [HF,AQ,Aw,A5,Ad],hu⟩) (s:=out) ⟨by omega,c⟩
  rw [q1,q2];simp only [Aa];rw [ad1 (by omega)];exact⟨u,rfl,rfl,by omega,q3.2⟩
 ·intro out ⟨a,c⟩;refine⟨out,by simp only [Ee,AQ,Aw,A5,Ad],by simp only [Gx,AQ,Aw,A5,Ad],?_,c⟩;rw [Ba]at a;exact a
theorem gU {γ:Type} {l:List γ} {i j:Int} {x y:γ} (h:gi l j=some y):∃z,gi (si l i x) j=some z:=by
 obtain⟨h1,h2⟩:=DJ h;have:=(Ah.1 h2).1;unfold gi;rw [Ay h1];exact⟨_,Ab (by simp only [si,Iw];exact this)⟩
theorem oD (l:List Ak) (k:Int):Ji l k=(Bg (NF BF) 0 k l).map (Sum.map (fun s=>(s.2,s.1)) id):=by
 unfold Ji Bg gi2 sW
 cases hk:decide (k>0)with
 |false=>rfl
 |true=>
  simp only [Af]
  cases h1:gi l (sb k 1)with
  |none=>cases h2:gi l k<;>simp
  |some x=>
   cases h2:gi l k with
   |none=>simp
   |some y=>
    simp only [Aa];have e:(decide (x.Page.Seq>y.Page.Seq))=NF BF y x:=rfl;rw [e]
    cases NF BF y x with
    |false=>rfl
    |true=>
     simp only [Af,h1,h2,Aa];obtain⟨z,hz⟩:=gU (i:=k) (x:=x) h1;rw [hz];rfl
theorem AA4 {γ:Type} {l l':List γ} {i j:Int} (h:sW l i j=some l'):l'.length=l.length:=by
 unfold sW at h;obtain⟨x,_,h⟩:=Aq.1 h;obtain⟨y,_,h⟩:=Aq.1 h
 injection h with h
 subst h;simp [si]
theorem ABA {a:Int} {j:Int} {l r:List Ak} (h:Az (fun s:Int×List Ak=>Bg (NF BF) a s.1 s.2) (j,l)=some r):r.length=l.length:=by
 refine vK (fun s:Int×List Ak=>s.2.length=l.length) (fun r=>r.length=l.length) ?_ ?_ (s:=(j,l)) rfl h
 ·rintro⟨j,m⟩ s' hm hb;simp only [Bg]at hb;obtain⟨c,_,hb⟩:=Aq.1 hb
  cases c with
  |false=>cases hb
  |true=>
   simp only [Af]at hb;obtain⟨m',h1,hb⟩:=Aq.1 hb
   injection hb with hb
   injection hb with hb
   subst hb;exact(AA4 h1).trans hm
 ·rintro⟨j,m⟩ b hm hb;simp only [Bg]at hb;obtain⟨c,_,hb⟩:=Aq.1 hb
  cases c with
  |false=>
   simp only [Ad]at hb
   injection hb with hb
   injection hb with hb
   subst hb;exact hm
  |true=>
   simp only [Af]at hb;obtain⟨m',h1,hb⟩:=Aq.1 hb;cases hb
theorem r8 (f:Flash) (hf:gZ f) (hT:∀b∈f.Blocks,∀x∈b.Leaves,(L x.Text).length<=1048576) (hn:nl f.Blocks<=1048576):
  ∃r,Fp f=some r/\GL f=some r/\r.length<=nl f.Blocks/\(∀y∈r,Py f y)/\srt BF r:=by
 obtain⟨X,h1,h2,h3,h4⟩:=QZ f hf hT hn;obtain⟨r,h5,h6,h7⟩:=ZC BF X (by omega);obtain⟨r',h8,h9,h10⟩:=JU BF [] X [] (by simp only [Bi];omega);have hr:r'=r:=QD BF h9 h6 (fun k=>by rw [h7 k,<-h10 k]);subst hr;refine⟨r',?_,?_,?_,?_,h6⟩
 ·unfold Fp;rw [h1,Aa];simp only [A7,As,Bi,Kf]at h8;unfold Cs at h8;rw [show ad ((0:Nat):Int) 1=1 from rfl]at h8;have hc:Az (fun s:List Ak×Int=>Jj s.1 s.2) (X,1)=Az (fun s:Int×List Ak=>Bp (NF BF) ((0:Nat):Int) (X.length:Int) s.1 s.2) (1,X):=by
   refine mC (body:=fun s:Int×List Ak=>Bp (NF BF) ((0:Nat):Int) (X.length:Int) s.1 s.2) (body':=fun s:List Ak×Int=>Jj s.1 s.2) (fun s=>(s.2,s.1)) (fun s=>s.2.length=X.length) ?_ ?_ (1,X) rfl
   ·rintro⟨j,m⟩ hm;simp only at hm;simp only [Jj,Bp,Cq,hm]
    cases decide (j<(X.length:Int))with
    |false=>rfl
    |true=>
     simp only [Af];rw [qQ (body:=fun s:Int×List Ak=>Bg (NF BF) ((0:Nat):Int) s.1 s.2) (body':=fun s:List Ak×Int=>Ji s.1 s.2) (fun s=>(s.2,s.1)) (fun s=>oD s.2 s.1) (j,m)];cases Az (fun s:Int×List Ak=>Bg (NF BF) ((0:Nat):Int) s.1 s.2) (j,m)<;>rfl
   ·rintro⟨j,m⟩ s' hm hb;simp only [Bp]at hb
    cases hc:decide (j<(X.length:Int))with
    |false=>rw [hc,Ad]at hb;cases hb
    |true=>
     rw [hc,Af]at hb;obtain⟨m',h1,hb⟩:=Aq.1 hb
     injection hb with hb
     injection hb with hb
     subst hb;exact(ABA h1).trans hm
  rw [hc];exact h8
 ·unfold GL;rw [h2,Aa,h5];rfl
 ·rw [<-h7.len];exact h3
 ·exact fun y hy=>h4 y ((h7.mem).1 hy)
end Go.TI
namespace Go.TI
open Go
section
variable {α β σ S:Type}
theorem RL {body:S->Option (S⊕List α)} (mkS:List α->Int->S) (g:Nat->α->α) (l0:List α)
  (h1:∀(i:Nat) (l:List α) x,l.length=l0.length->l[i]?=some x->l0[i]?=some x->body (mkS l (i:Nat))=some (.inl (mkS (l.set i (g i x)) ((i+1:Nat):Int))))
  (h2:∀l:List α,l.length=l0.length->body (mkS l (l0.length:Nat))=some (.inr l)):Az body (mkS l0 0)=some (l0.mapIdx g):=by
 obtain⟨b,h3,h4⟩:=Br (body:=body) mkS l0.length (fun i l=>l.length=l0.length/\∀j,l[j]?=if j<i then(l0[j]?).map (g j)else l0[j]?) (fun b=>b=l0.mapIdx g)
  (fun l i hi hs=>by
   obtain⟨hl,hs⟩:=hs;have a:l0[i]?=some l0[i]:=Ab hi;have hx:l[i]?=some l0[i]:=by rw [hs,A0 (Aw _),a]
   refine .inl ⟨_,h1 i l _ hl hx a,by rw [Iw,hl],fun j=>?_⟩;rw [Cp];by_cases e:i=j
   ·subst e;rw [Ay rfl,Ay (by omega),Ay (by omega),a];rfl
   ·rw [A0 e,hs];by_cases h:j<i
    ·rw [Ay h,Ay (by omega)]
    ·rw [A0 h,A0 (by omega)])
  (fun l hs=>⟨l,h2 l hs.1,by
   apply CT;intro j;rw [hs.2,Ju];by_cases h:j<l0.length
   ·rw [Ay h]
   ·rw [A0 h,Di (by omega)]
    rfl⟩) (s:=l0) ⟨rfl,fun j=>by rw [A0 (by omega)]⟩
 rw [h3,h4]
end
abbrev Ks:=List BU
def dk:BU:=BU.mk true []
def Ci (K:Ks) (i:Int):BU:=(gi K i).getD dk
def Mg (k:BU) (j:Nat):Int:=(k.Kids[j]?).getD 0
def Nv (K:Ks) (i:Nat) (leaf:Bool) (n:Int):Bool:=bif leaf then decide (0<=n)else(n== -1||(decide (0<=n/\n<=(i:Int)-1)&&(Ci K n).Leaf))
def Dj (K:Ks):Bool:=K.zipIdx.all fun z=>z.1.Kids.length==4&&z.1.Kids.all (Nv K z.2 z.1.Leaf)
def DU (K:Ks) (r:Int):Bool:=r== -1||(decide (0<=r/\r<(K.length:Int))&&!(Ci K r).Leaf)
def P7 (K:Ks) (root:Int) (s:Nat):Int:=if root<0 then 0 else if Mg (Ci K root) (s/4)<0 then 0 else Mg (Ci K (Mg (Ci K root) (s/4))) (s %4)
def EG (K:Ks) (root:Int):List Int:=(List.range 16).map (P7 K root)
theorem Pw {K:Ks} {i:Nat} (h:i<K.length):Ci K (i:Int)=K[i]:=by
 unfold Ci;rw [AH,Ab h];rfl
theorem MG {K:Ks} {i:Int} (h0:0<=i) (h:i<(K.length:Int)):gi K i=some (Ci K i):=by
 unfold Ci;rw [Pz h0 h];rfl
theorem El (x a b:Int):BR x a b=some (decide (a<=x/\x<=b)):=by
 rw [WU];congr 1;rw [FC];simp
theorem Hw {K:Ks}:Dj K=true↔∀i:Nat,i<K.length->(Ci K (i:Int)).Kids.length=4/\∀n∈(Ci K (i:Int)).Kids,Nv K i (Ci K (i:Int)).Leaf n=true:=by
 unfold Dj;rw [HI];constructor
 ·intro h i hi;have:=h (K[i],i) (by rw [List.mem_zipIdx_iff_getElem?];exact Ab hi);rw [An,HI]at this;rw [Pw hi];exact⟨by simpa using this.1,this.2⟩
 ·intro h z hz;rw [List.mem_zipIdx_iff_getElem?]at hz;obtain⟨a,hz⟩:=Ah.1 hz;have:=h z.2 a;rw [Pw a,hz]at this;rw [An,HI];exact⟨by simpa using this.1,this.2⟩
theorem Lo (a:Arena) (ha:a.Knots.length<=1048576):FX a=some (Dj a.Knots):=by
 unfold FX;have h:=WO (body:=fun s:Int=>DF a s) a.Knots (fun i k=>k.Kids.length==4&&k.Kids.all (Nv a.Knots i k.Leaf)) (.inr false) (.inl ()) (by omega)
  (fun i k hk=>by
   have hi:=(Ah.1 hk).1;simp only [DF,AQ,Ac hi,Af,AH,hk,Aa];by_cases h4:k.Kids.length=4
   ·have e1:(ln k.Kids !=4)=false:=by simp [ln,h4]
    have e2:(k.Kids.length==4)=true:=by simp [h4]
    simp only [e1,Ad,e2,CU];have q:=WO (body:=fun s:Int=>DE a (i:Int) k s) k.Kids (fun _ n=>Nv a.Knots i k.Leaf n) (.inr (.inr (.inr false))) (.inl ()) (by omega)
     (fun j n hn=>by
      have hj:=(Ah.1 hn).1;simp only [DE];rw [Ac (by omega:(j:Int)<4),Af,AH,hn];simp only [Aa,Nv]
      cases hl:k.Leaf with
      |true=>
       simp only [Af,Ar,Ad];by_cases h0:n<0
       ·rw [Ac h0,Ae (by omega:¬0<=n)];rfl
       ·rw [Ae h0,Ac (by omega:0<=n)];simp only [Ad,Aa,Af];rw [ad1 (by omega)]
      |false=>
       simp only [Ad,Be,Af];by_cases h1:n= -1
       ·subst h1;simp only [bne_self_eq_false,Ad,Aa,BEq.rfl,Bool.true_or,Af];rw [ad1 (by omega)]
       ·have e3:(n != -1)=true:=by simp [h1]
        have e4:(n== -1)=false:=by simp [h1]
        rw [e3,e4];simp only [Af,S1];rw [C1 (by omega) (by omega),El];simp only [Aa];by_cases h2:0<=n/\n<=(i:Int)-1
        ·rw [Ac h2];simp only [Ar,Ad];rw [MG h2.1 (by omega)];simp only [Aa,CU]
         cases(Ci a.Knots n).Leaf with
         |true=>simp only [Ar,Ad,Af];rw [ad1 (by omega)]
         |false=>rfl
        ·rw [Ae h2];rfl)
     (by simp only [DE];rw [Ae (by omega:¬((k.Kids.length:Nat):Int)<4),Ad])
    rw [q];have hz:(k.Kids.zipIdx.all fun z=>Nv a.Knots i k.Leaf z.1)=k.Kids.all (Nv a.Knots i k.Leaf):=by
     rw [show(fun z:Int×Nat=>Nv a.Knots i k.Leaf z.1)=(Nv a.Knots i k.Leaf)∘Prod.fst from rfl,<-List.all_map];congr 1;simp
    simp only [Aa];rw [hz]
    cases k.Kids.all (Nv a.Knots i k.Leaf)with
    |true=>simp only [Af,Co];rw [ad1 (by omega)]
    |false=>rfl
   ·have e1:(ln k.Kids !=4)=true:=by simp [ln];omega
    have e2:(k.Kids.length==4)=false:=by simp [h4]
    simp only [e1,Af,e2,Bool.false_and,Ad])
  (by simp only [DF,AQ,Aw,A5,Ad])
 rw [h];unfold Dj;simp only [Aa];cases(a.Knots.zipIdx.all fun z=>z.1.Kids.length==4&&z.1.Kids.all (Nv a.Knots z.2 z.1.Leaf))<;>rfl
theorem Lj (a:Arena) (ha:a.Knots.length<=1048576) (r:Int):GB a r=some (DU a.Knots r):=by
 unfold GB DU
 cases hr:(r== -1)with
 |true=>rfl
 |false=>
  simp only [Ad,S1];rw [Cq,C1 (by omega) (by omega),El];simp only [Aa];by_cases h:0<=r/\r<(a.Knots.length:Int)
  ·rw [Ac h,Ac (by omega:0<=r/\r<=(a.Knots.length:Int)-1)];simp only [Af,CU];rw [MG h.1 h.2];rfl
  ·rw [Ae h,Ae (by omega:¬(0<=r/\r<=(a.Knots.length:Int)-1))];rfl
theorem C4 {K:Ks} {r:Int} (h:DU K r=true):r= -1\/(0<=r/\r<(K.length:Int)/\(Ci K r).Leaf=false):=by
 unfold DU at h;simp only [Da,Cw,An,AA,Dm]at h
 rcases h with h|h
 ·exact .inl h
 ·exact .inr ⟨h.1.1,h.1.2,h.2⟩
theorem HO {K:Ks} (hK:Dj K=true) {r:Int} (h0:0<=r) (h1:r<(K.length:Int)):(Ci K r).Kids.length=4/\∀j,j<4->(Ci K r).Kids[j]?=some (Mg (Ci K r) j)/\Nv K r.toNat (Ci K r).Leaf (Mg (Ci K r) j)=true:=by
 have:=Hw.1 hK r.toNat (by omega);rw [show((r.toNat:Nat):Int)=r by omega]at this;refine⟨this.1,fun j hj=>?_⟩;have a:j<(Ci K r).Kids.length:=by omega
 have e:(Ci K r).Kids[j]?=some (Mg (Ci K r) j):=by unfold Mg;rw [Ab a];rfl
 exact⟨e,this.2 _ (AI e)⟩
theorem GR {K:Ks} (hK:Dj K=true) {r:Int} (h0:0<=r) (h1:r<(K.length:Int)) (hl:(Ci K r).Leaf=false) {j:Nat} (hj:j<4):Mg (Ci K r) j= -1\/(0<=Mg (Ci K r) j/\Mg (Ci K r) j<r/\(Ci K (Mg (Ci K r) j)).Leaf=true):=by
 have:=((HO hK h0 h1).2 j hj).2;rw [hl]at this;simp only [Nv,Ad,Da,Cw,An,AA]at this
 rcases this with h|⟨⟨h2,h3⟩,h4⟩
 ·exact .inl h
 ·exact .inr ⟨h2,by omega,h4⟩
theorem zY {K:Ks} (hK:Dj K=true) {r:Int} (h0:0<=r) (h1:r<(K.length:Int)) (hl:(Ci K r).Leaf=true) {j:Nat} (hj:j<4):0<=Mg (Ci K r) j:=by
 have:=((HO hK h0 h1).2 j hj).2;rw [hl]at this;simpa [Nv]using this
theorem qu4 {s:Nat} (h:s<16):qu (s:Int) 4=((s/4:Nat):Int):=by
 unfold qu;rw [show Int.tdiv (s:Int) 4=((s/4:Nat):Int) by rw [Int.tdiv_eq_ediv_of_nonneg (by omega)];omega];exact Nc (by omega) (by omega)
theorem ABX {s:Nat}:Int.tmod (s:Int) 4=((s %4:Nat):Int):=by
 rw [Jv (by omega)];omega
theorem Tz (a:Arena) (hK:Dj a.Knots=true) {r:Int} (hr:DU a.Knots r=true) {s:Nat} (hs:s<16):LQ a r (s:Int)=some (P7 a.Knots r s):=by
 unfold LQ P7
 rcases C4 hr with rfl|⟨h0,h1,hl⟩
 ·rfl
 ·rw [Ae (by omega:¬r<0),A0 (by omega),Ad,MG h0 h1];simp only [Aa];rw [qu4 hs,AH,((HO hK h0 h1).2 (s/4) (by omega)).1];simp only [Aa]
  rcases GR hK h0 h1 hl (show s/4<4 by omega)with e|⟨e1,e2,e3⟩
  ·rw [e];rfl
  ·rw [Ae (by omega),A0 (by omega),Ad,MG e1 (by omega)];simp only [Aa];rw [ABX,AH,((HO hK e1 (by omega)).2 (s %4) (by omega)).1];rfl
theorem Wz (a:Arena) (ha:a.Knots.length<=1048576) (hK:Dj a.Knots=true) {r:Int} (hr:DU a.Knots r=true) {s:Nat} (hs:s<16):NW a r (s:Int)=some (P7 a.Knots r s):=by
 unfold NW;rw [Lo a ha,Lj a ha,El,hK,hr];simp only [Aa,Ar,Ad];rw [Ac (by omega:0<=(s:Int)/\(s:Int)<=15)];simp only [Ar,Ad];rw [Tz a hK hr hs]
 try rfl
theorem Oc (a:Arena) (ha:a.Knots.length<=1048576) (hK:Dj a.Knots=true) {r:Int} (hr:DU a.Knots r=true):Il a r=some (EG a.Knots r):=by
 unfold Il;obtain⟨b,h1,h2⟩:=Br (body:=fun s:List Int×Int=>Gu a r s.1 s.2) (fun(o:List Int) i=>(o,i)) 16 (fun i o=>o=(List.range i).map (P7 a.Knots r)) (fun b=>b=EG a.Knots r)
  (fun o i hi ho=>by
   refine .inl ⟨_,?_,rfl⟩;simp only [Gu];rw [Ac (by omega:(i:Int)<16),Af,Wz a ha hK hr hi];simp only [Aa];rw [CF (by rw [ho];simp;omega)];simp only [Aa]
   rw [ad1 (by omega),ho,FB,Cv,List.map_singleton])
  (fun o ho=>⟨_,by simp only [Gu];rw [Ae (by omega:¬((16:Nat):Int)<16),Ad],ho⟩) (s:=[]) rfl
 have h1':Az (fun s:List Int×Int=>Gu a r s.1 s.2) ([],0)=some b:=h1;rw [h1',h2];rfl
end Go.TI
namespace Go.TI
open Go
theorem OA {α:Type} {by_:Nat} {l:List α} (h:l.length*by_<=140737488355328):ap by_ [] l=some l:=by
 rw [CF (by simpa using h),A7]
def ACN (K:Ks):Prop:=K.length<=1048576/\∀k∈K,k.Kids.length<=1048576
theorem Sn {K:Ks} (hK:Dj K=true) (h:K.length<=1048576):ACN K:=by
 refine⟨h,fun k hk=>?_⟩;obtain⟨i,hi,rfl⟩:=AF hk;have:=(Hw.1 hK i hi).1;rw [Pw hi]at this;omega
theorem R1 (a:Arena) (h:ACN a.Knots):L5 a=some a:=by
 unfold L5;have h1:=WM (body:=fun s:Int×List BU=>Jc a s.1 s.2) a.Knots (fun k=>k)
  (fun i k out hk ho=>by
   have hi:=(Ah.1 hk).1;have hm:=h.2 k (AI hk);have:=h.1;simp only [Jc,AQ,Ac hi,Af,AH,hk,Aa];rw [OA (by omega)];simp only [Aa];rw [CF (by simp;omega)];simp only [Aa]
   rw [ad1 (by omega)])
  (fun out=>by simp only [Jc,AQ,Aw,A5,Ad])
 rw [h1];simp only [Aa,List.map_id']
theorem Li (s:Store) (h:ACN s.Arena.Knots) (hv:s.Vols.length<=1048576):Ev s=some s:=by
 unfold Ev;rw [OA (by omega),R1 _ h];rfl
def OH (K:Ks) (r:Int) (s:Nat) (n:Int):List Int:=(if r<0 then [0,0,0,0]else if Mg (Ci K r) (s/4)<0 then [0,0,0,0]else(Ci K (Mg (Ci K r) (s/4))).Kids).set (s %4) n
def Rq (K:Ks) (r:Int) (s:Nat):List Int:=(if r<0 then [-1,-1,-1,-1]else(Ci K r).Kids).set (s/4) (K.length:Int)
def JQ (K:Ks) (r:Int) (s:Nat) (n:Int):Ks:=K++ [BU.mk true (OH K r s n),BU.mk false (Rq K r s)]
theorem mk4:mk 8 (0:Int) 4=some [0,0,0,0]:=by rw [show(4:Int)=((4:Nat):Int)from rfl,WJ (by omega) (by omega)];rfl
theorem AAh {k:BU} {j:Nat} (h:j<k.Kids.length):gi k.Kids (j:Int)=some (Mg k j):=by
 unfold Mg;rw [AH,Ab h];rfl
theorem pJ (a:Arena) (ha:a.Knots.length<=1048000) (hK:Dj a.Knots=true) {r:Int} (hr:DU a.Knots r=true) {s:Nat} (hs:s<16) {n:Int} (hn:0<=n):
  UN a r (s:Int) n=some (Arena.mk (JQ a.Knots r s n),(a.Knots.length:Int)+1):=by
 unfold UN;rw [R1 _ (Sn hK (by omega)),Lo a (by omega),Lj a (by omega),El,hK,hr];simp only [Aa,Ar,Ad];rw [Ac (by omega:0<=(s:Int)/\(s:Int)<=15),Ae (by omega:¬n<0)];simp only [Ar,Ad,Aa];rw [mk4];simp only [Aa];have fin:∀(lf tp:List Int),lf.length=4->tp.length=4->JQ a.Knots r s n=a.Knots++ [BU.mk true (lf.set (s %4) n),BU.mk false (tp.set (s/4) (a.Knots.length:Int))]->
   ((gi lf (Int.tmod (s:Int) 4)).bind fun x4=>(gi tp (qu (s:Int) 4)).bind fun x5=>(ap 32 a.Knots [(BU.mk true (si lf (Int.tmod (s:Int) 4) n)),(BU.mk false (si tp (qu (s:Int) 4) (ln a.Knots)))]).bind fun q4=>some ((Arena.mk q4),(sb (ln q4) 1)))=some (Arena.mk (JQ a.Knots r s n),(a.Knots.length:Int)+1):=by
  intro lf tp h1 h2 h3;rw [qu4 hs,ABX,AH,AH,Ab (by omega),Ab (by omega)];simp only [Aa];rw [CF (by simp;omega),Ha,Ha,Cq,<-h3];simp only [Aa];rw [Cq,h3,Ag,C1 (by simp;omega) (by simp;omega)];simp only [Ax,Bi];congr 2;omega
 rcases C4 hr with rfl|⟨h0,h1,hl⟩
 ·rw [Ae (by omega:¬(-1:Int)>=0)];simp only [Ad,Aa];exact fin _ _ rfl rfl rfl
 ·rw [Ac (by omega:r>=0),Af,MG h0 h1];have h4:=(HO hK h0 h1).1;simp only [Aa];rw [OA (by omega)];simp only [Aa];rw [qu4 hs,AAh (by omega:s/4<(Ci a.Knots r).Kids.length)];simp only [Aa];rw [<-qu4 hs]
  rcases GR hK h0 h1 hl (show s/4<4 by omega)with e|⟨e1,e2,e3⟩
  ·rw [Ae (by omega:¬Mg (Ci a.Knots r) (s/4)>=0)];simp only [Ad,Aa];exact fin _ _ rfl h4 (by unfold JQ OH Rq;simp only [A0 (show¬r<0 by omega),Ay (show Mg (Ci a.Knots r) (s/4)<0 by omega)])
  ·rw [Ac (by omega:Mg (Ci a.Knots r) (s/4)>=0),Af,MG e1 (by omega)];have h5:=(HO hK e1 (by omega)).1;simp only [Aa];rw [OA (by omega)];simp only [Aa];exact fin _ _ h5 h4 (by unfold JQ OH Rq;simp only [A0 (show¬r<0 by omega),A0 (show¬Mg (Ci a.Knots r) (s/4)<0 by omega)])
def Oz (K:Ks) (r:Int) (i:Nat):Bool:=decide (0<=r)&&(decide (r=(i:Int))||(Ci K r).Kids.any fun n=>decide (n=(i:Int)))
theorem fI {α:Type} (n:Nat) (f:Nat->α) (g:Nat->α->α):((List.range n).map f).mapIdx g=(List.range n).map fun i=>g i (f i):=by
 apply CT;intro j;rw [Ju,Bc,Bc];by_cases h:j<n
 ·rw [OR h];rfl
 ·rw [Di (by simpa using h)];rfl
theorem PV {α:Type} (n:Nat) (f:Nat->α) (i:Nat) (x:α) (g:Nat->α) (h:∀j,j<n->g j=if j=i then x else f j):((List.range n).map f).set i x=(List.range n).map g:=by
 apply CT;intro j;rw [Cp,Bc,Bc];by_cases hj:j<n
 ·rw [OR hj];simp only [Bz,h j hj,Bu,Ch];by_cases e:i=j
  ·rw [Ay e,Ay (by omega),Ay e.symm]
  ·rw [A0 e,A0 (E6 e)]
 ·rw [Di (by simpa using hj)];simp only [Option.map_none,Bu,Ch];split
  ·rw [A0 (by omega)]
  ·rfl
theorem JP {α:Type} {n:Nat} {f:Nat->α} {i:Nat} (h:i<n):((List.range n).map f)[i]?=some (f i):=by
 rw [Bc,OR h];rfl
theorem iW {l:List Int} {m:Nat} {x:Int} (h:l[m]?=some x) (p:Int->Bool):(l.take (m+1)).any p=((l.take m).any p||p x):=by
 rw [Er,h,List.any_append];simp
theorem jK (a:Arena) (ha:a.Knots.length<=1048576) (hK:Dj a.Knots=true) {r:Int} (hr:DU a.Knots r=true):R0 a r=some ((List.range a.Knots.length).map (Oz a.Knots r)):=by
 unfold R0;rw [Cq,WJ (by omega) (by omega)];simp only [Aa]
 rcases C4 hr with rfl|⟨h0,h1,hl⟩
 ·simp only [show decide ((-1:Int)<0)=true from rfl,Af];congr 1;rw [show(Oz a.Knots (-1))=fun _=>false from rfl,Lb,Ch]
 ·rw [Ae (by omega:¬r<0),Ad];obtain⟨m,rfl⟩:∃m:Nat,r=(m:Int):=⟨r.toNat,by omega⟩;rw [AH,List.getElem?_replicate,Ay (by omega)];simp only [Aa];rw [Ha];obtain⟨h4,hk⟩:=HO hK h0 h1;obtain⟨b,q1,q2⟩:=Br (body:=fun s:List Bool×Int=>I3 a (m:Int) s.1 s.2) (fun(o:List Bool) i=>(o,i)) 4
   (fun i o=>o=(List.range a.Knots.length).map fun(j:Nat)=>decide ((m:Int)=(j:Int))||((Ci a.Knots (m:Int)).Kids.take i).any fun n=>decide (n=(j:Int)))
   (fun b=>b=(List.range a.Knots.length).map (Oz a.Knots (m:Int)))
   (fun o i hi ho=>by
    obtain⟨e,_⟩:=hk i hi;simp only [I3];rw [Ac (by omega:(i:Int)<4),Af,MG h0 h1];simp only [Aa];rw [AH,e];simp only [Aa]
    rcases GR hK h0 h1 hl hi with e1|⟨e1,e2,e3⟩
    ·rw [e1,Ae (by omega:¬(-1:Int)>=0),Ad,ad1 (by omega)];refine .inl ⟨o,rfl,?_⟩;rw [ho];apply CI;intro j hj;rw [iW e,e1,Ae (by omega:¬(-1:Int)=(j:Int)),NH]
    ·obtain⟨c,hc⟩:∃c:Nat,Mg (Ci a.Knots (m:Int)) i=(c:Int):=⟨(Mg (Ci a.Knots (m:Int)) i).toNat,by omega⟩;rw [hc,Ac (by omega:(c:Int)>=0),Af]
     try simp only [Aa]
     rw [ho,AH,JP (by omega)];simp only [Aa];rw [Ha,ad1 (by omega)];refine .inl ⟨_,rfl,?_⟩;apply PV;intro j hj;rw [iW e,hc];by_cases d:j=c
     ·subst d;simp
     ·rw [A0 d,Ae (by omega:¬(c:Int)=(j:Int)),NH])
   (fun o ho=>⟨_,by simp only [I3];rw [Ae (by omega:¬((4:Nat):Int)<4),Ad],by
    rw [ho];apply CI;intro j hj;rw [AZ (by omega)];unfold Oz
    rw [Ac h0,CU]⟩) (s:=(List.replicate a.Knots.length false).set m true) (by
    rw [<-Ch (n:=a.Knots.length),<-Lb,Ch];apply PV;intro j hj;simp only [HG,List.any_nil,NH];by_cases e:j=m
    ·subst e;simp
    ·rw [A0 e,Ae (by omega)])
  have q1':Az (fun s:List Bool×Int=>I3 a (m:Int) s.1 s.2) ((List.replicate a.Knots.length false).set m true,0)=some b:=q1;rw [q1',q2];rfl
end Go.TI
namespace Go.TI
open Go
def DA (K:Ks) (R:List Int) (i:Nat):Bool:=R.any fun r=>Oz K r i
def ZU (K:Ks) (R:List Int) (i:Nat):Nat:=((List.range i).filter (DA K R)).length
def PU (K:Ks) (R:List Int) (n:Int):Int:=if 0<=n then(ZU K R n.toNat:Int)else n
def n8 (K:Ks) (R:List Int) (i:Nat):BU:=BU.mk (Ci K (i:Int)).Leaf (bif(Ci K (i:Int)).Leaf then(Ci K (i:Int)).Kids else(Ci K (i:Int)).Kids.map (PU K R))
def TX (K:Ks) (R:List Int):Ks:=((List.range K.length).filter (DA K R)).map (n8 K R)
theorem On {α:Type} (l:List α) (f:α->α):l.mapIdx (fun _ x=>f x)=l.map f:=by
 apply CT;intro j;rw [Ju,Bc]
theorem PD {K:Ks} {R:List Int} {r:Int} (hr:r∈R) (h0:0<=r):DA K R r.toNat=true:=by
 unfold DA;rw [Dg];exact⟨r,hr,by unfold Oz;rw [Ac h0,Ac (by omega:r=(r.toNat:Int))];rfl⟩
theorem iS {K:Ks} {R:List Int} (hK:Dj K=true) (hR:∀r∈R,DU K r=true) {i:Nat} (hu:DA K R i=true) (hl:(Ci K (i:Int)).Leaf=false):(i:Int)∈R:=by
 unfold DA at hu;rw [Dg]at hu;obtain⟨r,hr,h⟩:=hu;unfold Oz at h;simp only [An,Da,AA,Dg]at h;obtain⟨h0,h⟩:=h
 rcases h with h|⟨n,hn,h⟩
 ·rw [<-h];exact hr
 ·rcases C4 (hR r hr)with e|⟨_,h1,a⟩
  ·omega
  ·obtain⟨h4,hk⟩:=HO hK h0 h1;obtain⟨j,hj,b⟩:=AF hn;have e:=(hk j (by omega)).1;rw [Ab hj,b]at e
   injection e with e
   rcases GR hK h0 h1 a (show j<4 by omega)with k1|⟨_,_,k3⟩
   ·omega
   ·rw [<-e,h,hl]at k3;cases k3
theorem Vq {K:Ks} {R:List Int} {r n:Int} (hr:r∈R) (h0:0<=r) (hn:n∈(Ci K r).Kids) (h1:0<=n):DA K R n.toNat=true:=by
 unfold DA;rw [Dg];refine⟨r,hr,?_⟩;unfold Oz;rw [Ac h0,CU,Da,Dg];exact .inr ⟨n,hn,by rw [AA];omega⟩
theorem ADn {K:Ks} {R:List Int} (i:Nat):ZU K R i<=i:=by
 have:=BV (DA K R) (List.range i);rw [Ch]at this;exact this
theorem Yl (a:Arena) (ha:a.Knots.length<=1048576) (R:List Int) (hc:R.length<=1048576) (hR:∀r∈R,DU a.Knots r=true):Az (fun s:Bool×Int=>Fo a R s.1 s.2) (true,0)=some true:=by
 obtain⟨b,h1,h2⟩:=Br (body:=fun s:Bool×Int=>Fo a R s.1 s.2) (fun(o:Bool) i=>(o,i)) R.length (fun _ o=>o=true) (fun b=>b=true)
  (fun o i hi ho=>by
   have hx:=Ab hi;simp only [Fo,AQ,Ac hi,Af,Aa,ho,AH,hx];rw [Lj a ha,hR _ (AK hi)];simp only [Aa];rw [ad1 (by omega)]
   exact .inl ⟨true,rfl,rfl⟩)
  (fun o ho=>⟨o,by simp only [Fo,AQ,Aw,A5,Ad,Aa],ho⟩) (s:=true) rfl
 rw [h2]at h1;exact h1
theorem cM (a:Arena) (ha:a.Knots.length<=1048576) (hK:Dj a.Knots=true) (R:List Int) (hc:R.length<=1048576) (hR:∀r∈R,DU a.Knots r=true):
  Az (fun s:List Bool×Int=>Fl a R s.1 s.2) (List.replicate a.Knots.length false,0)=some ((List.range a.Knots.length).map (DA a.Knots R)):=by
 obtain⟨b,h1,h2⟩:=Br (body:=fun s:List Bool×Int=>Fl a R s.1 s.2) (fun(o:List Bool) i=>(o,i)) R.length (fun i o=>o=(List.range a.Knots.length).map fun(j:Nat)=>(R.take i).any fun r=>Oz a.Knots r j) (fun b=>b=(List.range a.Knots.length).map (DA a.Knots R))
  (fun o i hi ho=>by
   have hx:=Ab hi;simp only [Fl,AQ,Ac hi,Af,Aa,AH,hx];rw [jK a ha hK (hR _ (AK hi))];simp only [Aa];have d:o.length=a.Knots.length:=by rw [ho];simp
   have q:=RL (body:=fun s:List Bool×Int=>G3 ((List.range a.Knots.length).map (Oz a.Knots R[i])) s.1 s.2) (fun l i=>(l,i)) (fun k x=>x||Oz a.Knots R[i] k) o
    (fun k l x hl c e=>by
     have hk:k<a.Knots.length:=by have:=(Ah.1 c).1;omega
     simp only [G3,AQ];rw [Ac (by simpa using hk),Af,AH,c];simp only [Aa]
     cases x with
     |true=>simp only [Af,Bool.true_or];rw [Ha,ad1 (by omega)]
     |false=>
      simp only [Ad,S1];rw [AH,JP hk];simp only [Aa]
      rw [Ha,ad1 (by omega)])
    (fun l hl=>by simp only [G3,AQ];rw [d,Ae (by simp),Ad])
   rw [q];simp only [Aa];rw [ad1 (by omega),ho,fI];refine .inl ⟨_,rfl,?_⟩;apply CI;intro j hj;rw [Er,hx,List.any_append]
   simp)
  (fun o ho=>⟨o,by simp only [Fl,AQ,Aw,A5,Ad],by rw [ho,AZ (by omega)];rfl⟩) (s:=List.replicate a.Knots.length false) (by
   simp only [HG,List.any_nil]
   rw [Lb,Ch])
 rw [<-h2];exact h1
def qD (K:Ks) (R:List Int) (i:Nat):List Int:=(List.range K.length).map fun(j:Nat)=>if j<i/\DA K R j=true then(ZU K R j:Int)else 0
theorem Ym (a:Arena) (ha:a.Knots.length<=1048576) (hK:Dj a.Knots=true) (R:List Int) (hR:∀r∈R,DU a.Knots r=true):
  Az (fun s:List Int×Int×List BU=>Fk a ((List.range a.Knots.length).map (DA a.Knots R)) s.1 s.2.1 s.2.2) (List.replicate a.Knots.length 0,0,[])=some (qD a.Knots R a.Knots.length,TX a.Knots R):=by
 obtain⟨b,h1,h2⟩:=Br (body:=fun s:List Int×Int×List BU=>Fk a ((List.range a.Knots.length).map (DA a.Knots R)) s.1 s.2.1 s.2.2) (fun(o:List Int×List BU) i=>(o.1,i,o.2)) a.Knots.length
  (fun i o=>o=(qD a.Knots R i,((List.range i).filter (DA a.Knots R)).map (n8 a.Knots R))) (fun b=>b=(qD a.Knots R a.Knots.length,TX a.Knots R))
  (fun o i hi ho=>by
   subst ho;simp only [Fk,AQ,Ac hi,Af];rw [AH,JP hi];simp only [Aa]
   cases hu:DA a.Knots R i with
   |false=>
    simp only [Be,Af];rw [ad1 (by omega)];refine .inl ⟨(qD a.Knots R i,((List.range i).filter (DA a.Knots R)).map (n8 a.Knots R)),rfl,?_⟩;congr 1
    ·unfold qD;apply CI;intro j hj;by_cases e:j=i
     ·subst e;rw [A0 (by omega),A0 (by rw [hu];simp)]
     ·by_cases h:j<i/\DA a.Knots R j=true
      ·rw [Ay h,Ay ⟨by omega,h.2⟩]
      ·rw [A0 h,A0 (fun h3=>h ⟨by omega,h3.2⟩)]
    ·rw [FB,AS,B9 (by rw [hu];simp)];simp
   |true=>
    simp only [Ar,Ad];have h0:(0:Int)<=(i:Int):=by omega
    have d:(i:Int)<(a.Knots.length:Int):=by omega
    rw [MG h0 d];obtain⟨h4,hk⟩:=HO hK h0 d;simp only [Aa];rw [OA (by omega)];simp only [Aa];have inner:Az (fun s:Int×List Int=>Fj (qD a.Knots R i) ((Ci a.Knots (i:Int)).Leaf,(Ci a.Knots (i:Int)).Kids) s.1 s.2) (0,(Ci a.Knots (i:Int)).Kids)=some (n8 a.Knots R i).Kids:=by
     unfold n8
     cases hl:(Ci a.Knots (i:Int)).Leaf with
     |true=>rw [AB];rfl
     |false=>
      have q:=RL (body:=fun s:Int×List Int=>Fj (qD a.Knots R i) (false,(Ci a.Knots (i:Int)).Kids) s.1 s.2) (fun l k=>(k,l)) (fun _ x=>PU a.Knots R x) (Ci a.Knots (i:Int)).Kids
       (fun k l x t f g=>by
        have m:k<4:=by have:=(Ah.1 g).1;omega
        have ex:x=Mg (Ci a.Knots (i:Int)) k:=by have:=(hk k m).1;rw [g]at this;injection this
        simp only [Fj];rw [Ac (by omega:(k:Int)<4)];simp only [Af,Aa,Be];rw [AH,f];simp only [Aa]
        rcases GR hK h0 d hl m with e|⟨e1,e2,e3⟩
        ·rw [Ae (by omega:¬x>=0),Ad,ad1 (by omega)];have:PU a.Knots R x=x:=by unfold PU;rw [A0 (by omega)]
         rw [this,show l.set k x=l from by
          apply CT;intro j;rw [Cp];split
          ·rename_i e5;subst e5;rw [Ay (Ah.1 f).1,f]
          ·rfl]
        ·rw [Ac (by omega:x>=0),Af];obtain⟨c,hc⟩:∃c:Nat,x=(c:Int):=⟨x.toNat,by omega⟩;have u:x∈(Ci a.Knots (i:Int)).Kids:=AI g;have n:=Vq (iS hK hR hu hl) h0 u (by omega);rw [hc]at n;rw [hc,AH];unfold qD;rw [JP (by omega)];simp only [Aa];rw [Ay ⟨by omega,n⟩,Ha,ad1 (by omega)];unfold PU;rw [Ay (by omega)]
         rfl)
       (fun l t=>by
        simp only [Fj];rw [h4,Ae (by omega:¬((4:Nat):Int)<4)]
        rfl)
      rw [On]at q;exact q
    rw [inner];simp only [Aa];have v:gi (qD a.Knots R i) (i:Int)=some 0:=by
     unfold qD;rw [AH,JP hi,A0 (by omega)]
    rw [v];simp only [Aa];have w:=ADn (K:=a.Knots) (R:=R) i;have p:(((List.range i).filter (DA a.Knots R)).map (n8 a.Knots R)).length=ZU a.Knots R i:=by rw [Bu];rfl
    rw [CF (by rw [p];simp;omega)];simp only [Aa];rw [ad1 (by omega),Cq,p,Ha];refine .inl ⟨(_,_),rfl,?_⟩;congr 1
    ·unfold qD;apply PV;intro j hj;by_cases e:j=i
     ·subst e;rw [Ay ⟨by omega,hu⟩,Ay rfl]
     ·rw [A0 e];by_cases h:j<i/\DA a.Knots R j=true
      ·rw [Ay h,Ay ⟨by omega,h.2⟩]
      ·rw [A0 h,A0 (fun h3=>h ⟨by omega,h3.2⟩)]
    ·rw [FB,AS,BJ hu,DS,Cv]
     rfl)
  (fun o ho=>⟨o,by simp only [Fk,AQ,Aw,A5,Ad],ho⟩) (s:=(List.replicate a.Knots.length 0,[])) (by
   unfold qD;simp only [Nat.not_lt_zero,false_and,Jt];rw [Lb,Ch]
   rfl)
 rw [<-h2];exact h1
theorem pC (a:Arena) (ha:a.Knots.length<=1048576) (R:List Int) (hc:R.length<=1048576) (hR:∀r∈R,DU a.Knots r=true):
  Az (fun s:List Int×Int=>Fi (qD a.Knots R a.Knots.length,TX a.Knots R) s.1 s.2) (R,0)=some (R.map (PU a.Knots R)):=by
 have q:=RL (body:=fun s:List Int×Int=>Fi (qD a.Knots R a.Knots.length,TX a.Knots R) s.1 s.2) (fun l k=>(l,k)) (fun _ x=>PU a.Knots R x) R
  (fun k l x f b d=>by
   have hk:=(Ah.1 d).1;have g:=(Ah.1 b).1;simp only [Fi,AQ,Ac g,Af,AH,b,Aa]
   rcases C4 (hR x (AI d))with e|⟨e1,e2,e3⟩
   ·rw [Ae (by omega:¬x>=0),Ad,ad1 (by omega)];have:PU a.Knots R x=x:=by unfold PU;rw [A0 (by omega)]
    rw [this,show l.set k x=l from by
     apply CT;intro j;rw [Cp];split
     ·rename_i e5;subst e5
      first
       |rw [Ay g,b]
       |exact b.symm
     ·rfl]
   ·rw [Ac (by omega:x>=0),Af];obtain⟨c,h⟩:∃c:Nat,x=(c:Int):=⟨x.toNat,by omega⟩;have i:=PD (K:=a.Knots) (AI d) e1;rw [h]at i;rw [h,AH];unfold qD;rw [JP (by omega)];simp only [Aa];rw [Ay ⟨by omega,i⟩,Ha,ad1 (by omega)];unfold PU;rw [Ay (by omega)]
    rfl)
  (fun l f=>by simp only [Fi,Cq,f];rw [Ae (by omega),Ad])
 rw [On]at q;exact q
theorem VX (a:Arena) (ha:a.Knots.length<=1048576) (hK:Dj a.Knots=true) (R:List Int) (hc:R.length<=1048576) (hR:∀r∈R,DU a.Knots r=true):
  Je a R=some (Arena.mk (TX a.Knots R),R.map (PU a.Knots R)):=by
 unfold Je;rw [OA (by omega),Lo a ha,hK];simp only [Aa];rw [Yl a ha R hc hR];simp only [Aa,Ar,Ad];rw [Cq,WJ (by omega) (by omega)];simp only [Aa];rw [cM a ha hK R hc hR];simp only [Aa];rw [WJ (by omega) (by omega)];simp only [Aa];rw [Ym a ha hK R hR];simp only [Aa];rw [pC a ha R hc hR];rfl
end Go.TI
namespace Go.TI
open Go
theorem Xg (p:Nat->Bool) {i:Nat} (hp:p i=true):∀{n:Nat},i<n->((List.range n).filter p)[((List.range i).filter p).length]?=some i
 |0,h=>by omega
 |n+1,h=>by
  rw [FB,AS];by_cases e:i=n
  ·subst e;rw [AR (A4 _),PA,BJ hp];rfl
  ·have h2:=Xg p hp (show i<n by omega);have h3:=(Ah.1 h2).1;rw [AP h3,h2]
theorem mX (p:Nat->Bool) {i:Nat} (hp:p i=true) {n:Nat} (h:i<n):((List.range i).filter p).length<((List.range n).filter p).length:=(Ah.1 (Xg p hp h)).1
theorem mW (p:Nat->Bool):∀{n j:Nat},j<((List.range n).filter p).length->∃i,i<n/\p i=true/\((List.range i).filter p).length=j
 |0,j,h=>by simp at h
 |n+1,j,h=>by
  rw [FB,AS,Ag]at h;by_cases e:j<((List.range n).filter p).length
  ·obtain⟨i,h1,h2,h3⟩:=mW p e;exact⟨i,by omega,h2,h3⟩
  ·by_cases hp:p n=true
   ·rw [BJ hp]at h;simp at h;exact⟨n,by omega,hp,by omega⟩
   ·rw [B9 hp]at h;simp at h;omega
section
variable {K:Ks} {R:List Int}
theorem bI:(TX K R).length=ZU K R K.length:=by unfold TX ZU;rw [Bu]
theorem PG {i:Nat} (hu:DA K R i=true) (hi:i<K.length):Ci (TX K R) (ZU K R i:Nat)=n8 K R i/\ZU K R i<(TX K R).length:=by
 have h:=mX (DA K R) hu hi;have h2:ZU K R i<(TX K R).length:=by rw [bI];exact h
 refine⟨?_,h2⟩;unfold Ci;rw [AH];unfold TX;rw [Bc];have:=Xg (DA K R) hu hi;rw [show ZU K R i=((List.range i).filter (DA K R)).length from rfl,this];rfl
theorem xV {j:Nat} (hj:j<(TX K R).length):∃i,i<K.length/\DA K R i=true/\ZU K R i=j:=by
 rw [bI]at hj;exact mW (DA K R) hj
theorem ADm {i j:Nat} (hu:DA K R i=true) (h:i<j):ZU K R i<ZU K R j:=mX _ hu h
theorem Vx (i:Nat):(n8 K R i).Leaf=(Ci K (i:Int)).Leaf:=rfl
theorem s7 (hK:Dj K=true) {i:Nat} (hi:i<K.length):(n8 K R i).Kids.length=4:=by
 have:=(Hw.1 hK i hi).1;unfold n8
 cases(Ci K (i:Int)).Leaf with
 |true=>exact this
 |false=>simp only [Ad,Bu];exact this
theorem s8 {i j:Nat} (hl:(Ci K (i:Int)).Leaf=false) (hj:j<(Ci K (i:Int)).Kids.length):Mg (n8 K R i) j=PU K R (Mg (Ci K (i:Int)) j):=by
 unfold Mg n8;rw [hl];simp only [Ad];rw [Bc,Ab hj];rfl
theorem Qt {i:Nat} (hl:(Ci K (i:Int)).Leaf=true):(n8 K R i).Kids=(Ci K (i:Int)).Kids:=by
 unfold n8;rw [hl];rfl
theorem PS {n:Int} (h:n<0):PU K R n=n:=by unfold PU;rw [A0 (by omega)]
theorem PT (n:Nat):PU K R (n:Int)=(ZU K R n:Int):=by unfold PU;rw [Ay (by omega)];rfl
theorem ACp (hK:Dj K=true) (hR:∀r∈R,DU K r=true):Dj (TX K R)=true:=by
 rw [Hw];intro j hj;obtain⟨i,hi,hu,rfl⟩:=xV hj;rw [(PG hu hi).1];refine⟨s7 hK hi,fun n hn=>?_⟩;have h0:(0:Int)<=(i:Int):=by omega
 have h1:(i:Int)<(K.length:Int):=by omega
 obtain⟨h4,hk⟩:=HO hK h0 h1;rw [Vx]
 cases hl:(Ci K (i:Int)).Leaf with
 |true=>
  rw [Qt hl]at hn;have:=(Hw.1 hK i hi).2 n hn;rw [hl]at this;simpa [Nv]using this
 |false=>
  obtain⟨m,hm,b⟩:=AF hn;rw [s7 hK hi]at hm;have e:n=PU K R (Mg (Ci K (i:Int)) m):=by
   rw [<-s8 hl (by omega),<-b];unfold Mg;rw [Ab];rfl
  rcases GR hK h0 h1 hl hm with k1|⟨k1,k2,k3⟩
  ·rw [k1,PS (by omega)]at e;subst e;rfl
  ·obtain⟨c,hc⟩:∃c:Nat,Mg (Ci K (i:Int)) m=(c:Int):=⟨_,(B4 k1).symm⟩;rw [hc]at e k2 k3;rw [PT]at e;have a:=Vq (iS hK hR hu hl) h0 (AI (hk m hm).1) (by omega);rw [hc]at a;have d:c<K.length:=by omega
   have f:ZU K R c<ZU K R i:=ADm (by simpa using a) (by omega);subst e;simp only [Nv,Ad,Da,Cw,An,AA];refine .inr ⟨by omega,?_⟩;rw [(PG (by simpa using a) d).1,Vx];exact k3
theorem yR (hR:∀r∈R,DU K r=true) {r:Int} (hr:r∈R):DU (TX K R) (PU K R r)=true:=by
 rcases C4 (hR r hr)with e|⟨h0,h1,hl⟩
 ·rw [e,PS (by omega)];rfl
 ·obtain⟨c,rfl⟩:∃c:Nat,r=(c:Int):=⟨_,(B4 h0).symm⟩;have a:=PD (K:=K) hr h0;rw [B6]at a;obtain⟨g1,g2⟩:=PG a (by omega);rw [PT];unfold DU;rw [Ac (by omega),g1,Vx,hl];simp
theorem tF (hK:Dj K=true) (hR:∀r∈R,DU K r=true) {r:Int} (hr:r∈R):EG (TX K R) (PU K R r)=EG K r:=by
 unfold EG;apply CI;intro s hs;rw [Gh]at hs;unfold P7
 rcases C4 (hR r hr)with e|⟨h0,h1,hl⟩
 ·rw [e,PS (by omega),Ay (by omega),Ay (by omega)]
 ·obtain⟨c,rfl⟩:∃c:Nat,r=(c:Int):=⟨_,(B4 h0).symm⟩;have a:=PD (K:=K) hr h0;rw [B6]at a;obtain⟨g1,g2⟩:=PG a (by omega);obtain⟨h4,hk⟩:=HO hK h0 h1;rw [PT,g1,s8 hl (by omega)];simp only [A0 (show¬((ZU K R c:Nat):Int)<0 by omega),A0 (show¬((c:Nat):Int)<0 by omega)]
  rcases GR hK h0 h1 hl (show s/4<4 by omega)with k1|⟨k1,k2,k3⟩
  ·rw [k1,PS (by omega)];rfl
  ·obtain⟨d,hd⟩:∃d:Nat,Mg (Ci K (c:Int)) (s/4)=(d:Int):=⟨_,(B4 k1).symm⟩;have b:=Vq hr h0 (AI (hk (s/4) (by omega)).1) k1;rw [hd]at b k2 k3;rw [hd,PT];simp only [A0 (show¬((ZU K R d:Nat):Int)<0 by omega),A0 (show¬((d:Nat):Int)<0 by omega)];rw [(PG (by simpa using b) (by omega)).1];unfold Mg;rw [Qt k3]
theorem AA5 (hK:Dj K=true) (hR:∀r∈R,DU K r=true) {j:Nat} (hj:j<(TX K R).length):DA (TX K R) (R.map (PU K R)) j=true:=by
 obtain⟨i,hi,hu,rfl⟩:=xV hj;have hu':=hu;unfold DA at hu';rw [Dg]at hu';obtain⟨r,hr,h⟩:=hu';unfold Oz at h;simp only [An,Da,AA,Dg]at h;obtain⟨h0,h⟩:=h;unfold DA;rw [Dg];refine⟨PU K R r,AL.2 ⟨r,hr,rfl⟩,?_⟩;obtain⟨c,rfl⟩:∃c:Nat,r=(c:Int):=⟨_,(B4 h0).symm⟩;rw [PT];unfold Oz;simp only [An,Da,AA,Dg];refine⟨by omega,?_⟩
 rcases h with h|⟨n,hn,h⟩
 ·have:c=i:=by omega
  subst this;exact .inl rfl
 ·right
  rcases C4 (hR _ hr)with e|⟨_,h1,hl⟩
  ·omega
  ·have a:=PD (K:=K) hr h0;rw [B6]at a;rw [(PG a (by omega)).1];refine⟨(ZU K R i:Int),?_,rfl⟩;unfold n8;rw [hl];simp only [Ad,AL];exact⟨n,hn,by rw [h,PT]⟩
theorem Mf {X:Ks} {i:Int} (h0:0<=i) (h:i<(K.length:Int)):Ci (K++X) i=Ci K i:=by
 obtain⟨c,rfl⟩:∃c:Nat,i=(c:Int):=⟨_,(B4 h0).symm⟩;unfold Ci;rw [AH,AH,AP (by omega)]
theorem yO {X:Ks} {r:Int} (h:DU K r=true):DU (K++X) r=true:=by
 rcases C4 h with e|⟨h0,h1,hl⟩
 ·rw [e];rfl
 ·unfold DU;rw [Mf h0 h1,hl,Ac (by rw [Ag];omega)];simp
theorem tA {X:Ks} (hK:Dj K=true) {r:Int} (h:DU K r=true):EG (K++X) r=EG K r:=by
 unfold EG;apply CI;intro s hs;rw [Gh]at hs;unfold P7
 rcases C4 h with e|⟨h0,h1,hl⟩
 ·rw [e];rfl
 ·rw [Mf h0 h1];simp only [A0 (show¬r<0 by omega)]
  rcases GR hK h0 h1 hl (show s/4<4 by omega)with k1|⟨k1,k2,k3⟩
  ·rw [k1];rfl
  ·rw [Mf k1 (by omega)]
theorem aI (hK:Dj K=true) {r:Int} (hr:DU K r=true) {s:Nat} (hs:s<16) (n:Int):(OH K r s n).length=4:=by
 unfold OH;rw [Iw]
 rcases C4 hr with e|⟨h0,h1,hl⟩
 ·rw [Ay (by omega)];rfl
 ·rw [A0 (by omega)]
  rcases GR hK h0 h1 hl (show s/4<4 by omega)with k1|⟨k1,k2,k3⟩
  ·rw [Ay (by omega)];rfl
  ·rw [A0 (by omega)];exact(HO hK k1 (by omega)).1
theorem iV (hK:Dj K=true) {r:Int} (hr:DU K r=true) (s:Nat):(Rq K r s).length=4:=by
 unfold Rq;rw [Iw]
 rcases C4 hr with e|⟨h0,h1,hl⟩
 ·rw [Ay (by omega)];rfl
 ·rw [A0 (by omega)];exact(HO hK h0 h1).1
theorem SQ {r:Int} {s:Nat} {n:Int}:Ci (JQ K r s n) (K.length:Int)=BU.mk true (OH K r s n):=by
 unfold Ci JQ;rw [AH,AR (A4 _),PA];rfl
theorem SP {r:Int} {s:Nat} {n:Int}:Ci (JQ K r s n) ((K.length:Int)+1)=BU.mk false (Rq K r s):=by
 unfold Ci JQ;rw [show(K.length:Int)+1=((K.length+1:Nat):Int)from rfl,AH,AR (by omega),show K.length+1-K.length=1 by omega];rfl
theorem ACx (hK:Dj K=true) {r:Int} (hr:DU K r=true) {s:Nat} (hs:s<16) {n:Int} (hn:0<=n):Dj (JQ K r s n)=true:=by
 rw [Hw];intro j hj;have a:(JQ K r s n).length=K.length+2:=by unfold JQ;simp
 rw [a]at hj;by_cases h:j<K.length
 ·have hk:Ci (JQ K r s n) (j:Int)=Ci K (j:Int):=Mf (by omega) (by omega);rw [hk];obtain⟨h4,h5⟩:=Hw.1 hK j h;refine⟨h4,fun m hm=>?_⟩;have:=h5 m hm
  cases hl:(Ci K (j:Int)).Leaf with
  |true=>rw [hl]at this;exact this
  |false=>
   rw [hl]at this;simp only [Nv,Ad,Da,Cw,An,AA]at this⊢
   rcases this with e|⟨e1,e2⟩
   ·exact .inl e
   ·refine .inr ⟨e1,?_⟩;rw [show Ci (JQ K r s n) m=Ci K m from Mf e1.1 (by omega)];exact e2
 ·by_cases e:j=K.length
  ·subst e;rw [SQ];refine⟨aI hK hr hs n,fun m hm=>?_⟩;simp only [Nv,Af,AA];unfold OH at hm
   rcases D6 hm with hm|hm
   ·rcases C4 hr with e|⟨h0,h1,hl⟩
    ·rw [Ay (by omega)]at hm;simp at hm;omega
    ·rw [A0 (by omega)]at hm
     rcases GR hK h0 h1 hl (show s/4<4 by omega)with k1|⟨k1,k2,k3⟩
     ·rw [Ay (by omega)]at hm;simp at hm;omega
     ·rw [A0 (by omega)]at hm;have hq:=Hw.1 hK (Mg (Ci K r) (s/4)).toNat (by omega);rw [B4 k1,k3]at hq;have:=hq.2 m hm;simpa [Nv]using this
   ·omega
  ·have:j=K.length+1:=by omega
   subst this;rw [show((K.length+1:Nat):Int)=(K.length:Int)+1 from rfl,SP];refine⟨iV hK hr s,fun m hm=>?_⟩;simp only [Nv,Ad,Da,Cw,An,AA];unfold Rq at hm
   rcases D6 hm with hm|hm
   ·rcases C4 hr with e|⟨h0,h1,hl⟩
    ·rw [Ay (by omega)]at hm;simp at hm;omega
    ·rw [A0 (by omega)]at hm;obtain⟨q,hq,rfl⟩:=AF hm;obtain⟨h4,hk⟩:=HO hK h0 h1;have e5:=(hk q (by omega)).1;rw [Ab hq]at e5
     injection e5 with e5
     rw [e5]
     rcases GR hK h0 h1 hl (show q<4 by omega)with k1|⟨k1,k2,k3⟩
     ·exact .inl k1
     ·refine .inr ⟨by omega,?_⟩;rw [show Ci (JQ K r s n) (Mg (Ci K r) q)=Ci K (Mg (Ci K r) q)from Mf k1 (by omega)];exact k3
   ·refine .inr ⟨by omega,?_⟩;rw [hm,SQ]
theorem u0 {r:Int} {s:Nat} {n:Int}:DU (JQ K r s n) ((K.length:Int)+1)=true:=by
 unfold DU;rw [SP,Ac (by unfold JQ;simp;omega)];simp
theorem tH (hK:Dj K=true) {r:Int} (hr:DU K r=true) {s:Nat} (hs:s<16) {n:Int}:EG (JQ K r s n) ((K.length:Int)+1)=(EG K r).set s n:=by
 unfold EG;symm;apply PV;intro t ht;unfold P7;rw [SP];simp only [A0 (show¬((K.length:Int)+1)<0 by omega)];have a:=iV hK hr s;have b:=aI hK hr hs n;by_cases hq:t/4=s/4
 ·have e1:Mg (BU.mk false (Rq K r s)) (t/4)=(K.length:Int):=by
   unfold Mg Rq;rw [hq,Cp,Ay rfl];unfold Rq at a;rw [Iw]at a;rw [Ay (by rw [a];omega)];rfl
  rw [e1,A0 (by omega),SQ];have e2:Mg (BU.mk true (OH K r s n)) (t %4)=if t %4=s %4 then n else(if r<0 then 0 else if Mg (Ci K r) (s/4)<0 then 0 else Mg (Ci K (Mg (Ci K r) (s/4))) (t %4)):=by
   unfold Mg OH;unfold OH at b;rw [Iw]at b;rw [Cp];by_cases e:s %4=t %4
   ·rw [Ay e,Ay (by rw [b];omega),Ay e.symm];rfl
   ·rw [A0 e,A0 (E6 e)];have zero:([0,0,0,0]:List Int)[t %4]?.getD 0=0:=by
     have:t %4<4:=by omega
     generalize t %4=q at this
     match q,this with
     |0,_=>rfl
     |1,_=>rfl
     |2,_=>rfl
     |3,_=>rfl
    by_cases c1:r<0
    ·rw [Ay c1,Ay c1];exact zero
    ·rw [A0 c1,A0 c1];unfold Mg;by_cases c2:((Ci K r).Kids[s/4]?).getD 0<0
     ·rw [Ay c2,Ay c2];exact zero
     ·rw [A0 c2,A0 c2]
  rw [e2,hq];by_cases e:t=s
  ·rw [Ay e,Ay (by rw [e])]
  ·rw [A0 e,A0 (by omega)]
 ·rw [A0 (show¬t=s by intro e;rw [e]at hq;exact hq rfl)];have e1:Mg (BU.mk false (Rq K r s)) (t/4)=if r<0 then-1 else Mg (Ci K r) (t/4):=by
   unfold Mg Rq;rw [Cp,A0 (E6 hq)];by_cases c1:r<0
   ·rw [Ay c1,Ay c1];have:t/4<4:=by omega
    generalize t/4=q at this
    match q,this with
    |0,_=>rfl
    |1,_=>rfl
    |2,_=>rfl
    |3,_=>rfl
   ·rw [A0 c1,A0 c1]
  rw [e1]
  rcases C4 hr with e|⟨h0,h1,hl⟩
  ·rw [e];rfl
  ·simp only [A0 (show¬r<0 by omega)]
   rcases GR hK h0 h1 hl (show t/4<4 by omega)with k1|⟨k1,k2,k3⟩
   ·rw [k1];rfl
   ·rw [show Ci (JQ K r s n) (Mg (Ci K r) (t/4))=Ci K (Mg (Ci K r) (t/4))from Mf k1 (by omega)]
end
end Go.TI
namespace Go.TI
open Go
def KD (n:Nat) (p:Nat->Bool):Nat:=((List.range n).filter p).length
theorem Ka (n:Nat) (p:Nat->Bool):KD (n+1) p=KD n p+(if p n=true then 1 else 0):=by
 unfold KD;rw [FB,AS,Ag];by_cases h:p n=true
 ·rw [Ay h,BJ h];rfl
 ·rw [A0 h,B9 h];rfl
theorem Vd (p q:Nat->Bool):∀n,KD n (fun j=>p j||q j)<=KD n p+KD n q
 |0=>by simp [KD]
 |n+1=>by
  have:=Vd p q n;rw [Ka,Ka,Ka];cases p n<;>cases q n<;>simp<;>omega
theorem Xl (x:Int):∀n,KD n (fun j=>decide (x=(j:Int)))<=1/\(x>=(n:Int)->KD n (fun j=>decide (x=(j:Int)))=0)
 |0=>by simp [KD]
 |n+1=>by
  obtain⟨h1,h2⟩:=Xl x n;rw [Ka];by_cases h:x=(n:Int)
  ·have:=h2 (by omega);rw [Ay (by simpa using h)];exact⟨by omega,fun h3=>by omega⟩
  ·rw [A0 (by simpa using h)];exact⟨by omega,fun h3=>by rw [h2 (by omega)]⟩
theorem AAs (l:List Int) (n:Nat):KD n (fun j=>l.any fun x=>decide (x=(j:Int)))<=l.length:=by
 induction l with
 |nil=>simp [KD]
 |cons x l ih=>
  simp only [List.any_cons,Ax];have:=Vd (fun j=>decide (x=(j:Int))) (fun j=>l.any fun x=>decide (x=(j:Int))) n;have:=(Xl x n).1;omega
theorem ABK {n:Nat} {p q:Nat->Bool} (h:∀j,j<n->p j=true->q j=true):KD n p<=KD n q:=by
 induction n with
 |zero=>simp [KD]
 |succ n ih=>
  have:=ih (fun j hj=>h j (by omega));rw [Ka,Ka];by_cases e:p n=true
  ·rw [Ay e,Ay (h n (by omega) e)];omega
  ·rw [A0 e];omega
theorem m8 {n:Nat} {p:Nat->Bool} (h:∀j,j<n->p j=true):KD n p=n:=by
 induction n with
 |zero=>rfl
 |succ n ih=>rw [Ka,Ay (h n (by omega)),ih (fun j hj=>h j (by omega))]
section
variable {K:Ks} {R:List Int}
theorem ABC (hK:Dj K=true) {r:Int} (hr:DU K r=true) (n:Nat):KD n (Oz K r)<=5:=by
 have h1:=Vd (fun j=>decide (r=(j:Int))) (fun j=>(Ci K r).Kids.any fun n=>decide (n=(j:Int))) n;have h2:=(Xl r n).1;have h3:=AAs (Ci K r).Kids n
 have h4:KD n (Oz K r)<=KD n (fun j=>decide (r=(j:Int))||(Ci K r).Kids.any fun n=>decide (n=(j:Int))):=ABK fun j _ h=>by
  unfold Oz at h;rw [An]at h;exact h.2
 rcases C4 hr with e|⟨h0,hl,_⟩
 ·have:KD n (Oz K r)=KD n (fun _=>false):=by rw [e];rfl
  rw [this];unfold KD;rw [Cu.2 (by simp)];simp
 ·have:=(HO hK h0 hl).1;omega
theorem Vr (hK:Dj K=true) (n:Nat):∀(R:List Int),(∀r∈R,DU K r=true)->KD n (DA K R)<=5*R.length
 |[],_=>by simp [KD,DA]
 |r::R,h=>by
  have h1:=Vr hK n R (fun x hx=>h x (by simp [hx]));have h2:=ABC hK (h r (by simp)) n;have h3:=Vd (Oz K r) (DA K R) n;have h4:KD n (DA K (r::R))=KD n (fun j=>Oz K r j||DA K R j):=rfl;rw [h4,Ax];omega
theorem uM (hK:Dj K=true) (hR:∀r∈R,DU K r=true):(TX K R).length<=5*R.length:=by
 rw [bI];exact Vr hK _ R hR
end
def Cf (s:Store):List Int:=s.Vols.map Vol.Root
structure Ti (s:Store):Prop where
 len:s.Vols.length<=3
 ar:Dj s.Arena.Knots=true
 nx:1<=s.Next/\s.Next<=1000000000
 ids:∀v∈s.Vols,1<=v.Id/\v.Id<=9
 asc:(s.Vols.map Vol.Id).Pairwise (·<·)
 root:∀r∈Cf s,DU s.Arena.Knots r=true
 lt:∀r∈Cf s,∀x∈EG s.Arena.Knots r,x<s.Next
 few:s.Arena.Knots.length<=1000
structure DQ (s:Store):Prop extends Ti s where
 used:∀i,i<s.Arena.Knots.length->DA s.Arena.Knots (Cf s) i=true
theorem DQ.small {s:Store} (h:DQ s):s.Arena.Knots.length<=15:=by
 have h1:=Vr h.ar s.Arena.Knots.length (Cf s) h.root;rw [m8 h.used]at h1;have:(Cf s).length=s.Vols.length:=by unfold Cf;rw [Bu]
 have:=h.len;omega
def BW (s:Store):List (Int×List Int):=s.Vols.map fun v=>(v.Id,EG s.Arena.Knots v.Root)
def KK (s:Store):Store:=Store.mk (s.Vols.map fun v=>Vol.mk v.Id (PU s.Arena.Knots (Cf s) v.Root)) (Arena.mk (TX s.Arena.Knots (Cf s))) s.Next
theorem Oh (s:Store):Cf (KK s)=(Cf s).map (PU s.Arena.Knots (Cf s)):=by
 unfold Cf KK;simp only [Es];rfl
theorem sZ {s:Store} (h:Ti s):DQ (KK s):=by
 have b:(Cf s).length=s.Vols.length:=by unfold Cf;rw [Bu]
 refine⟨⟨by unfold KK;simpa using h.len,ACp h.ar h.root,h.nx,?_,?_,?_,?_,?_⟩,?_⟩
 ·intro v hv;unfold KK at hv;simp only [AL]at hv;obtain⟨w,hw,rfl⟩:=hv;exact h.ids w hw
 ·have:((KK s).Vols.map Vol.Id)=s.Vols.map Vol.Id:=by unfold KK;simp only [Es];rfl
  rw [this];exact h.asc
 ·intro r hr;rw [Oh]at hr;obtain⟨q,hq,rfl⟩:=AL.1 hr;exact yR h.root hq
 ·intro r hr;rw [Oh]at hr;obtain⟨q,hq,rfl⟩:=AL.1 hr;have:=tF h.ar h.root hq;intro x hx;have a:x∈EG s.Arena.Knots q:=by rw [<-this];exact hx
  exact h.lt q hq x a
 ·have:=uM h.ar h.root;have:=h.len;show(TX s.Arena.Knots (Cf s)).length<=1000;omega
 ·intro i hi;rw [Oh];exact AA5 h.ar h.root hi
theorem ZB {s:Store} (h:Ti s):BW (KK s)=BW s:=by
 unfold BW;show(s.Vols.map fun v=>Vol.mk v.Id (PU s.Arena.Knots (Cf s) v.Root)).map _=_;rw [Es];apply CI;intro v hv;have:=tF h.ar h.root (show v.Root∈Cf s from AL.2 ⟨v,hv,rfl⟩);show(v.Id,EG (TX s.Arena.Knots (Cf s)) (PU s.Arena.Knots (Cf s) v.Root))=_;rw [this]
theorem Qv (s:Store) (hv:s.Vols.length<=1048576):LP s=some (Cf s):=by
 unfold LP;obtain⟨b,h1,h2⟩:=Br (body:=fun q:List Int×Int=>GA s q.1 q.2) (fun(o:List Int) i=>(o,i)) s.Vols.length (fun i o=>o=(s.Vols.take i).map Vol.Root) (fun b=>b=Cf s)
  (fun o i hi ho=>by
   have hx:=Ab hi;simp only [GA,AQ,Ac hi,Af,AH,hx,Aa];rw [CF (by rw [ho];simp;omega)];simp only [Aa];rw [ad1 (by omega)]
   exact .inl ⟨_,rfl,by rw [ho,Er,hx,Cv];rfl⟩)
  (fun o ho=>⟨o,by simp only [GA,AQ,Aw,A5,Ad],by rw [ho,AZ (A4 _)];rfl⟩) (s:=[]) rfl
 have h1':Az (fun q:List Int×Int=>GA s q.1 q.2) ([],0)=some b:=h1;rw [h1',h2];rfl
theorem Qu {s:Store} (h:Ti s):Gs s=some (KK s):=by
 have hl:=h.len;have hf:=h.few;have d:(Cf s).length=s.Vols.length:=by unfold Cf;rw [Bu]
 unfold Gs;rw [Qv s (by omega)];simp only [Aa];rw [VX _ (by omega) h.ar _ (by omega) h.root];simp only [Aa];rw [OA (by omega)];simp only [Aa];have q:=RL (body:=fun q:Int×List Vol=>HS ((Cf s).map (PU s.Arena.Knots (Cf s)),TX s.Arena.Knots (Cf s)) q.1 q.2) (fun l i=>(i,l)) (fun _ v=>Vol.mk v.Id (PU s.Arena.Knots (Cf s) v.Root)) s.Vols
  (fun i l x a b c=>by
   have hi:=(Ah.1 b).1;simp only [HS,AQ,Ac hi,Af];have:gi ((Cf s).map (PU s.Arena.Knots (Cf s))) (i:Int)=some (PU s.Arena.Knots (Cf s) x.Root):=by
    rw [AH,Bc];unfold Cf;rw [Bc,c];rfl
   rw [this,AH,b];simp only [Aa]
   rw [Ha,ad1 (by omega)])
  (fun l a=>by simp only [HS,Cq,a];rw [Ae (by omega),Ad])
 rw [On]at q;rw [q];rfl
theorem xU {s:Store} (h:DQ s):KK s=s:=by
 have c:∀i,i<=s.Arena.Knots.length->ZU s.Arena.Knots (Cf s) i=i:=fun i hi=>m8 (fun j hj=>h.used j (by omega))
 have a:∀n:Int,n<(s.Arena.Knots.length:Int)->PU s.Arena.Knots (Cf s) n=n:=fun n hn=>by
  unfold PU;split
  ·rw [c _ (by omega)];omega
  ·rfl
 have b:∀r∈Cf s,PU s.Arena.Knots (Cf s) r=r:=fun r hr=>by
  rcases C4 (h.root r hr)with e|⟨h0,h1,_⟩
  ·rw [e,PS (by omega)]
  ·exact a r h1
 have d:TX s.Arena.Knots (Cf s)=s.Arena.Knots:=by
  unfold TX;rw [FH.2 (fun i hi=>h.used i (by simpa using hi))];apply CT;intro i;rw [Bc];by_cases hi:i<s.Arena.Knots.length
  ·rw [OR hi,Ab hi];simp only [Bz];congr 1;have h0:(0:Int)<=(i:Int):=by omega
   have h1:(i:Int)<(s.Arena.Knots.length:Int):=by omega
   unfold n8
   cases hl:(Ci s.Arena.Knots (i:Int)).Leaf with
   |true=>
    simp only [Af];rw [<-hl,Pw hi]
   |false=>
    simp only [Ad];have:(Ci s.Arena.Knots (i:Int)).Kids.map (PU s.Arena.Knots (Cf s))=(Ci s.Arena.Knots (i:Int)).Kids:=by
     conv=>rhs;rw [<-Rg (Ci s.Arena.Knots (i:Int)).Kids]
     apply CI;intro n hn;obtain⟨q,hq,rfl⟩:=AF hn;obtain⟨h4,hk⟩:=HO h.ar h0 h1;have e5:=(hk q (by omega)).1;rw [Ab hq]at e5
     injection e5 with e5
     rw [e5]
     rcases GR h.ar h0 h1 hl (show q<4 by omega)with k1|⟨k1,k2,k3⟩
     ·rw [k1,PS (by omega)];rfl
     ·exact a _ (by omega)
    rw [this,<-hl,Pw hi]
  ·rw [Di (by simpa using hi),Di (by omega)];rfl
 unfold KK;rw [d];have:(s.Vols.map fun v=>Vol.mk v.Id (PU s.Arena.Knots (Cf s) v.Root))=s.Vols:=by
  conv=>rhs;rw [<-Rg s.Vols]
  apply CI;intro v hv;rw [b _ (AL.2 ⟨v,hv,rfl⟩)];rfl
 rw [this]
theorem Xp {K:Ks} {r:Int} {s:Nat} (hs:s<16):P7 K r s∈EG K r:=AL.2 ⟨s,by simpa using hs,rfl⟩
theorem Ps {l:List Int} (h:l.Pairwise (·<·)) {i j:Nat} {x y:Int} (a:i<j) (hx:l[i]?=some x) (hy:l[j]?=some y):x<y:=by
 obtain⟨h1,rfl⟩:=Ah.1 hx;obtain⟨h2,rfl⟩:=Ah.1 hy;exact D5.1 h i j h1 h2 a
theorem T6 {s:Store} (h:DQ s):Nk s=some true:=by
 have hl:=h.len;have hf:=h.few;have d:(Cf s).length=s.Vols.length:=by unfold Cf;rw [Bu]
 unfold Nk;rw [Cq,Ae (by omega),Ad,Lo _ (by omega),h.ar,El,Ac h.nx];simp only [Aa,Ar,Ad];obtain⟨b,h1,h2⟩:=Br (body:=fun q:Int=>H8 s q) (fun(_:Unit) i=>i) s.Vols.length (fun _ _=>True) (fun b=>b= .inl ())
  (fun _ i hi _=>by
   have hx:=Ab hi;have hm:s.Vols[i]∈s.Vols:=AK hi;have hr:s.Vols[i].Root∈Cf s:=AL.2 ⟨_,hm,rfl⟩;simp only [H8,AQ,Ac hi,Af,AH,hx,Aa];rw [El,Ac (h.ids _ hm),Lj _ (by omega),h.root _ hr];simp only [Aa,Ar,Ad];have a:(bif(decide ((i:Int)>0))then((gi s.Vols (sb (i:Int) 1)).bind fun x2=>bif(decide (x2.Id>=s.Vols[i].Id))then(some true)else(some false))else(some false):Option Bool)=some false:=by
    by_cases h0:i=0
    ·rw [Ae (by omega:¬(i:Int)>0),Ad]
    ·rw [Ac (by omega:(i:Int)>0),Af,C1 (by omega) (by omega),show(i:Int)-1=((i-1:Nat):Int) by omega,AH,Ab (by omega)];simp only [Aa];have:=Ps h.asc (show i-1<i by omega) (x:=s.Vols[i-1].Id) (y:=s.Vols[i].Id) (by rw [Bc,Ab (by omega)];rfl) (by rw [Bc,Ab (by omega)];rfl);rw [Ae (by omega),Ad]
   rw [a];simp only [Aa,Ad];obtain⟨c,q1,q2⟩:=Br (body:=fun q:Int=>H7 s s.Vols[i] q) (fun(_:Unit) i=>i) 16 (fun _ _=>True) (fun b=>b= .inl ())
    (fun _ k hk _=>by
     simp only [H7];rw [Ac (by omega:(k:Int)<16),Af,Tz _ h.ar (h.root _ hr) hk];simp only [Aa];have:=h.lt _ hr _ (Xp hk);rw [Ae (by omega),Ad,ad1 (by omega)]
     exact .inl ⟨(),rfl,trivial⟩)
    (fun _ _=>⟨_,by simp only [H7];rw [Ae (by omega:¬((16:Nat):Int)<16),Ad],rfl⟩) (s:=()) trivial
   have q1':Az (fun q:Int=>H7 s s.Vols[i] q) 0=some c:=q1;rw [q1',q2];simp only [Aa,Co];rw [ad1 (by omega)]
   exact .inl ⟨(),rfl,trivial⟩)
  (fun _ _=>⟨_,by simp only [H8,AQ,Aw,A5,Ad],rfl⟩) (s:=()) trivial
 have h1':Az (fun q:Int=>H8 s q) 0=some b:=h1;rw [h1',h2];simp only [Aa,Co];rw [Qv s (by omega)];simp only [Aa];rw [VX _ (by omega) h.ar _ (by omega) h.root];simp only [Aa];have:TX s.Arena.Knots (Cf s)=s.Arena.Knots:=by
  have:=xU h;unfold KK at this;have:=BH (fun z=>z.Arena.Knots) this;exact this
 rw [this];simp
end Go.TI
namespace Go.TI
open Go
abbrev Vs:=List (Int×List Int)
def Lw (l:Vs) (id:Int):Option (List Int):=(l.find? fun p=>p.1==id).map Prod.snd
def vV (l:Vs) (id:Int) (row:List Int):Vs:=(l.filter fun p=>decide (p.1<id))++ [(id,row)]++l.filter fun p=>decide (p.1>id)
def AEe (l:Vs) (id:Int):Vs:=l.filter fun p=>p.1 !=id
def oP (l:Vs) (id:Int) (s:Nat) (n:Int):Vs:=l.map fun p=>if p.1=id then(p.1,p.2.set s n)else p
def HB (r:Df):Bool:=decide (0<=r.Arg/\r.Arg<=1000000000)&&(bif r.Kind==1 then r.Vol==0&&r.Chunk==0 else decide (2<=r.Kind/\r.Kind<=5)&&decide (1<=r.Vol/\r.Vol<=9)&&(r.Kind==4||r.Chunk==0)&&
 (bif r.Kind==2 then decide (r.Arg<=9)else bif r.Kind==3 then r.Arg==0 else bif r.Kind==4 then decide (r.Arg<16)&&decide (1<=r.Chunk/\r.Chunk<=1000000000)else decide (r.Arg<16)))
def Rk:List Int:=List.replicate 16 0
def DP (l:Vs) (nx:Int) (r:Df):Option (Vs×Int):=
 if HB r=false then none
 else if r.Kind=1 then some ([],if r.Arg=0 then 1 else r.Arg)
 else if r.Kind=2 then
  if(0<r.Arg/\Lw l r.Arg=none)\/Lw l r.Vol≠none\/l.length=3 then none
  else some (vV l r.Vol (if 0<r.Arg then(Lw l r.Arg).getD Rk else Rk),nx)
 else if Lw l r.Vol=none\/r.Chunk=1000000000 then none
 else if r.Kind=3 then some (AEe l r.Vol,nx)
 else some (oP l r.Vol r.Arg.toNat r.Chunk,max nx (r.Chunk+1))
theorem PO (r:Df):PP r=some (HB r):=by
 unfold PP HB;simp only [El,Aa]
 cases decide (0<=r.Arg/\r.Arg<=1000000000)with
 |false=>rfl
 |true=>
  simp only [Ar,Ad,CU]
  cases r.Kind==1 with
  |true=>
   simp only [Af];cases r.Vol==0<;>rfl
  |false=>
   simp only [Ad]
   cases decide (2<=r.Kind/\r.Kind<=5)with
   |false=>rfl
   |true=>
    cases decide (1<=r.Vol/\r.Vol<=9)with
    |false=>rfl
    |true=>
     have e1:(r.Kind !=4)=!(r.Kind==4):=rfl;have e2:(r.Chunk !=0)=!(r.Chunk==0):=rfl;rw [e1,e2];cases r.Kind==4<;>cases r.Chunk==0<;>cases r.Kind==2<;>cases r.Kind==3<;>cases decide (r.Arg<16)<;>rfl
theorem Io (s:Store) (hv:s.Vols.length<=1048576) (id:Int):(Gt s id=some (-1)/\∀v∈s.Vols,v.Id≠id)\/∃k:Nat,∃v,Gt s id=some (k:Int)/\s.Vols[k]?=some v/\v.Id=id/\∀j w,j<k->s.Vols[j]?=some w->w.Id≠id:=by
 unfold Gt;obtain⟨b,h1,h2⟩:=Br (body:=fun q:Int=>JH s id q) (fun(_:Unit) i=>i) s.Vols.length (fun i _=>∀j w,j<i->s.Vols[j]?=some w->w.Id≠id)
  (fun b=>(b= .inl ()/\∀v∈s.Vols,v.Id≠id)\/∃k:Nat,∃v,b= .inr (k:Int)/\s.Vols[k]?=some v/\v.Id=id/\∀j w,j<k->s.Vols[j]?=some w->w.Id≠id)
  (fun _ i hi hs=>by
   have hx:=Ab hi;simp only [JH,AQ,Ac hi,Af,AH,hx,Aa]
   cases e:(s.Vols[i].Id==id)with
   |true=>exact .inr ⟨_,rfl,.inr ⟨i,_,rfl,hx,by simpa using e,hs⟩⟩
   |false=>
    simp only [Ad];rw [ad1 (by omega)];refine .inl ⟨(),rfl,fun j w hj hw=>?_⟩;by_cases e2:j=i
    ·subst e2;rw [hx]at hw
     injection hw with hw
     rw [<-hw];simpa using e
    ·exact hs j w (by omega) hw)
  (fun _ hs=>⟨_,by simp only [JH,AQ,Aw,A5,Ad],.inl ⟨rfl,fun v hv=>by
   obtain⟨j,hj,rfl⟩:=AF hv
   exact hs j _ hj (Ab hj)⟩⟩) (s:=()) (fun j w hj=>by omega)
 have h1':Az (fun q:Int=>JH s id q) 0=some b:=h1;rw [h1']
 rcases h2 with⟨rfl,h2⟩|⟨k,v,rfl,h2⟩
 ·exact .inl ⟨rfl,h2⟩
 ·exact .inr ⟨k,v,rfl,h2⟩
theorem N1 {s:Store} {id:Int}:(∀v∈s.Vols,v.Id≠id)↔Lw (BW s) id=none:=by
 unfold Lw BW;rw [Option.map_eq_none_iff,EH];constructor
 ·intro h p hp;obtain⟨v,hv,rfl⟩:=AL.1 hp;simpa using h v hv
 ·intro h v hv;have:=h _ (AL.2 ⟨v,hv,rfl⟩);simpa using this
theorem ABM {s:Store} (h:(s.Vols.map Vol.Id).Pairwise (·<·)) {v w:Vol} (hv:v∈s.Vols) (hw:w∈s.Vols) (e:v.Id=w.Id):v=w:=by
 obtain⟨i,hi,rfl⟩:=AF hv;obtain⟨j,hj,rfl⟩:=AF hw;have gi:(s.Vols.map Vol.Id)[i]?=some s.Vols[i].Id:=by rw [Bc,Ab hi];rfl
 have gj:(s.Vols.map Vol.Id)[j]?=some s.Vols[j].Id:=by rw [Bc,Ab hj];rfl
 rcases Mu i j with h1|h1|h1
 ·have:=Ps h h1 gi gj;omega
 ·subst h1;rfl
 ·have:=Ps h h1 gj gi;omega
theorem N0 {s:Store} (h:(s.Vols.map Vol.Id).Pairwise (·<·)) {v:Vol} (hv:v∈s.Vols):Lw (BW s) v.Id=some (EG s.Arena.Knots v.Root):=by
 unfold Lw;have hm:(v.Id,EG s.Arena.Knots v.Root)∈BW s:=AL.2 ⟨v,hv,rfl⟩
 cases hf:(BW s).find? fun p=>p.1==v.Id with
 |none=>
  rw [EH]at hf;have:=hf _ hm;simp at this
 |some p=>
  have h1:=List.find?_some hf;have h2:=List.mem_of_find?_eq_some hf;obtain⟨w,hw,rfl⟩:=AL.1 h2;have:w=v:=ABM h hw hv (by simpa using h1);rw [this];rfl
theorem NB (s:Store):(BW s).length=s.Vols.length:=by unfold BW;rw [Bu]
theorem lE (K:Ks):EG K (-1)=Rk:=by
 unfold EG Rk;rw [<-Ch (n:=16),<-Lb,Ch];apply CI;intro s hs;rfl
theorem rW (s:Store) (p:Int->Bool) (t:Store) (hk:t.Arena=s.Arena) (hv:t.Vols=s.Vols.filter fun v=>p v.Id):BW t=(BW s).filter fun q=>p q.1:=by
 unfold BW;rw [hk,hv,List.filter_map];rfl
theorem aK {body:List Vol×Int->Option ((List Vol×Int)⊕List Vol)} (l:List Vol) (p:Vol->Bool) (o:List Vol) (hM:l.length+o.length<=1048576)
  (h1:∀(i:Nat) v (out:List Vol),l[i]?=some v->out.length<=1048576->body (out,(i:Int))=some (.inl (bif p v then out++ [v]else out,((i+1:Nat):Int)))) (h2:∀out,body (out,(l.length:Int))=some (.inr out)):
  Az body (o,0)=some (o++l.filter p):=by
 obtain⟨b,h3,h4⟩:=Br (body:=body) (fun(q:List Vol) i=>(q,i)) l.length (fun i q=>q=o++(l.take i).filter p) (fun b=>b=o++l.filter p)
  (fun q i hi hq=>by
   have hx:=Ab hi;refine .inl ⟨_,h1 i _ q hx ?_,?_⟩
   ·rw [hq,Ag];have:=BV p (l.take i);rw [AC]at this;omega
   ·rw [hq,Er,hx,AS]
    cases e:p l[i]with
    |true=>simp [e]
    |false=>simp [e])
  (fun q hq=>⟨q,h2 q,by rw [hq,AZ (A4 _)]⟩) (s:=o) (by simp)
 rw [h3,h4]
theorem AAe {K:Ks} {R R':List Int} (h:∀r∈R,r∈R') {i:Nat} (hu:DA K R i=true):DA K R' i=true:=by
 unfold DA at hu⊢;rw [Dg]at hu⊢;obtain⟨r,hr,h2⟩:=hu;exact⟨r,h r hr,h2⟩
theorem oM {l:List Vol} (h:(l.map Vol.Id).Pairwise (·<·)) (v:Vol):(((l.filter fun w=>decide (w.Id<v.Id))++ [v]++l.filter fun w=>decide (w.Id>v.Id)).map Vol.Id).Pairwise (·<·):=by
 rw [Mv]at h;rw [Mv,Ap,Bo];refine⟨h.filter _,?_,?_⟩
 ·rw [Ce,CC];exact⟨fun w hw=>by simpa using(AM.1 hw).2,h.filter _⟩
 ·intro a ha b hb;have h1:a.Id<v.Id:=by simpa using(AM.1 ha).2
  rw [Ce,B7]at hb
  rcases hb with rfl|hb
  ·exact h1
  ·have:b.Id>v.Id:=by simpa using(AM.1 hb).2
   omega
theorem uP (l:List Vol) (id:Int):(l.filter fun w=>decide (w.Id<id)).length+(l.filter fun w=>decide (w.Id>id)).length<=l.length:=by
 induction l with
 |nil=>simp
 |cons v l ih=>
  simp only [List.filter_cons,Ax];by_cases h1:v.Id<id
  ·rw [Ay (by simpa using h1),A0 (by simp;omega),Ax];omega
  ·rw [A0 (by simpa using h1)];split
   ·rw [Ax];omega
   ·omega
def Oq (s:Store) (r:Df) (o:Option (Store×Bool)):Prop:=match DP (BW s) s.Next r with
 |none=>o=some (s,false)
 |some (l,nx)=>∃t,o=some (t,true)/\DQ t/\BW t=l/\t.Next=nx
theorem wC {s:Store} (h:DQ s) {r:Df} (hr:HB r=true) (hk:r.Kind=2):Oq s r (LO s r):=by
 have hl:=h.len;have c:=Sn h.ar (by have:=h.few;omega);have a:=Li s c (by omega);have hb:HB r=true:=hr;unfold HB at hr;rw [hk]at hr;simp at hr;unfold Oq DP;rw [hb,hk];simp only [Ii,Jt,Cd,show¬((2:Int)=1) by omega];unfold LO;have root:(Lw (BW s) r.Arg=none/\0<r.Arg/\(bif(decide (r.Arg>0))then((Gt s r.Arg).bind fun v1=>bif(decide (v1<0))then((Ev s).bind fun v2=>some (.inr (v2,false)))else((gi s.Vols v1).bind fun x1=>some (.inl x1.Root)))else(some (.inl (-1))):Option ((Int)⊕((Store×Bool))))=some (.inr (s,false)))\/
   (¬(0<r.Arg/\Lw (BW s) r.Arg=none)/\∃q,DU s.Arena.Knots q=true/\(q= -1\/q∈Cf s)/\EG s.Arena.Knots q=(if 0<r.Arg then(Lw (BW s) r.Arg).getD Rk else Rk)/\(bif(decide (r.Arg>0))then((Gt s r.Arg).bind fun v1=>bif(decide (v1<0))then((Ev s).bind fun v2=>some (.inr (v2,false)))else((gi s.Vols v1).bind fun x1=>some (.inl x1.Root)))else(some (.inl (-1))):Option ((Int)⊕((Store×Bool))))=some (.inl q)):=by
  by_cases h0:0<r.Arg
  ·rw [Ac (by omega:r.Arg>0)];simp only [Af]
   rcases Io s (by omega) r.Arg with⟨h1,h2⟩|⟨k,v,h1,h2,h3,_⟩
   ·left;rw [h1,a];exact⟨N1.1 h2,h0,rfl⟩
   ·right;rw [h1];have hm:=AI h2;have hg:=N0 h.asc hm;rw [h3]at hg;refine⟨fun hh=>(by rw [hg]at hh;cases hh.2),v.Root,h.root _ (AL.2 ⟨v,hm,rfl⟩),.inr (AL.2 ⟨v,hm,rfl⟩),?_,?_⟩
    ·rw [Ay h0,hg];rfl
    ·simp only [Aa];rw [Ae (by omega),Ad,AH,h2];rfl
  ·right;rw [Ae (by omega:¬r.Arg>0),A0 h0];exact⟨fun hh=>h0 hh.1,-1,rfl,.inl rfl,lE _,rfl⟩
 rcases root with⟨g1,g2,g3⟩|⟨g1,q,g2,g3,g4,g5⟩
 ·rw [g3,Ay (.inl ⟨g2,g1⟩)];rfl
 ·rw [g5];simp only [Aa,Co]
  rcases Io s (by omega) r.Vol with⟨h1,h2⟩|⟨k,v,h1,h2,h3,_⟩
  ·rw [h1];simp only [Aa];rw [Ae (by omega),Ad,Cq];have g:Lw (BW s) r.Vol=none:=N1.1 h2;by_cases h3:s.Vols.length=3
   ·rw [h3,Ay (.inr (.inr (by rw [NB,h3])))];simp only [Aa];rw [a];rfl
   ·have e3:((s.Vols.length:Int)==3)=false:=by simp;omega
    rw [e3,A0 (by
     rintro(hh|hh|hh)
     ·exact g1 hh
     ·exact hh g
     ·rw [NB]at hh;exact h3 hh)]
    simp only [Aa,Ad];rw [a];simp only [Aa];have k1:=aK (body:=fun q:List Vol×Int=>Ky s r q.1 q.2) s.Vols (fun v=>decide (v.Id<r.Vol)) [] (by simp;omega)
     (fun i v out hv ho=>by
      have hi:=(Ah.1 hv).1;simp only [Ky,AQ,Ac hi,Af,AH,hv,Aa];rw [ad1 (by omega)]
      cases decide (v.Id<r.Vol)with
      |true=>simp only [Af];rw [CF (by simp;omega)];rfl
      |false=>rfl)
     (fun out=>by simp only [Ky,AQ,Aw,A5,Ad])
    rw [A7]at k1;rw [k1];simp only [Aa];have j:=uP s.Vols r.Vol;rw [CF (by simp;omega)];simp only [Aa];have k2:=aK (body:=fun q:List Vol×Int=>Kx s r q.1 q.2) s.Vols (fun v=>decide (v.Id>r.Vol)) ((s.Vols.filter fun v=>decide (v.Id<r.Vol))++ [Vol.mk r.Vol q]) (by simp;omega)
     (fun i v out hv ho=>by
      have hi:=(Ah.1 hv).1;simp only [Kx,AQ,Ac hi,Af,AH,hv,Aa];rw [ad1 (by omega)]
      cases decide (v.Id>r.Vol)with
      |true=>simp only [Af];rw [CF (by simp;omega)];rfl
      |false=>rfl)
     (fun out=>by simp only [Kx,AQ,Aw,A5,Ad])
    rw [k2];simp only [Aa];have d:((s.Vols.filter fun v=>decide (v.Id<r.Vol))++ [Vol.mk r.Vol q]++s.Vols.filter fun v=>decide (v.Id>r.Vol)).length<=3:=by simp only [Ag,Ax,Bi];omega
    have f:∀x∈Cf s,x∈(Cf (Store.mk ((s.Vols.filter fun v=>decide (v.Id<r.Vol))++ [Vol.mk r.Vol q]++s.Vols.filter fun v=>decide (v.Id>r.Vol)) s.Arena s.Next)):=by
     intro x hx;obtain⟨v,hv,rfl⟩:=AL.1 hx;refine AL.2 ⟨v,?_,rfl⟩;have:=h2 v hv;simp only [Aj,AM,A6];by_cases e:v.Id<r.Vol
     ·exact .inl (.inl ⟨hv,by simpa using e⟩)
     ·exact .inr ⟨hv,by simp;omega⟩
    have b:∀x∈(Cf (Store.mk ((s.Vols.filter fun v=>decide (v.Id<r.Vol))++ [Vol.mk r.Vol q]++s.Vols.filter fun v=>decide (v.Id>r.Vol)) s.Arena s.Next)),x= -1\/x∈Cf s:=by
     intro x hx;obtain⟨v,hv,rfl⟩:=AL.1 hx;simp only [Aj,AM,A6]at hv
     rcases hv with(hv|rfl)|hv
     ·exact .inr (AL.2 ⟨v,hv.1,rfl⟩)
     ·exact g3
     ·exact .inr (AL.2 ⟨v,hv.1,rfl⟩)
    refine⟨_,rfl,⟨⟨d,h.ar,h.nx,?_,oM h.asc (Vol.mk r.Vol q),?_,?_,h.few⟩,?_⟩,?_,rfl⟩
    ·intro v hv;simp only [Aj,AM,A6]at hv
     rcases hv with(hv|rfl)|hv
     ·exact h.ids v hv.1
     ·show 1<=r.Vol/\r.Vol<=9;omega
     ·exact h.ids v hv.1
    ·intro x hx
     rcases b x hx with e|e
     ·rw [e];rfl
     ·exact h.root x e
    ·intro x hx
     rcases b x hx with e|e
     ·intro y hy;rw [e]at hy;change y∈EG s.Arena.Knots (-1)at hy;rw [lE]at hy;have:=DN hy;have:=h.nx;show y<s.Next;omega
     ·exact h.lt x e
    ·intro i hi;exact AAe f (h.used i hi)
    ·rw [<-g4];unfold vV BW;simp only [Cv,BN,sE,List.filter_map];rfl
  ·rw [h1];simp only [Aa];rw [Ac (by omega),Af];have hg:=N0 h.asc (AI h2);rw [h3]at hg;rw [Ay (.inr (.inl (by rw [hg];simp)))];simp only [Aa,Af];rw [a];rfl
theorem Zv {l:List Vol} (h:(l.map Vol.Id).Pairwise (·<·)) {k:Nat} {v:Vol} (hv:l[k]?=some v):l.take k++l.drop (k+1)=l.filter fun w=>w.Id !=v.Id:=by
 rw [Mv]at h;have hk:=(Ah.1 hv).1;have e:l=l.take k++v::l.drop (k+1):=by
  have h2:=Bq hk;rw [(Ah.1 hv).2]at h2;rw [<-h2,Bt]
 rw [e,Bo]at h;obtain⟨h1,h2,h3⟩:=h;rw [CC]at h2
 conv=>rhs;rw [e]
 rw [AS,B9 (by simp)];congr 1
 ·symm;rw [FH];intro w hw;have:=h3 w hw v (by simp);simp;omega
 ·symm;rw [FH];intro w hw;have:=h2.1 w hw;simp;omega
theorem AAn {s:Store} (h:DQ s) (r:Df):Oq s r (UO s r):=by
 have hl:=h.len;have g:=Sn h.ar (by have:=h.few;omega);have a:=Li s g (by omega);unfold UO;rw [T6 h,PO];simp only [Aa,Ar,Ad]
 cases hb:HB r with
 |false=>
  simp only [Be,Af];rw [a];unfold Oq DP;rw [hb];rfl
 |true=>
  simp only [Ar,Ad];have hr:=hb;unfold HB at hr
  cases k1:(r.Kind==1)with
  |true=>
   have e1:r.Kind=1:=by simpa using k1
   rw [e1]at hr;simp at hr;unfold Oq DP;rw [hb,e1];simp only [Ii,Jt,Cd,Af];have:(bif(r.Arg==0)then(some 1)else(some r.Arg):Option (Int))=some (if r.Arg=0 then 1 else r.Arg):=by
    by_cases e:r.Arg=0
    ·rw [Ay e,e];rfl
    ·rw [A0 e,show(r.Arg==0)=false by simpa using e];rfl
   rw [this];refine⟨_,rfl,⟨⟨by simp,rfl,?_,by simp,by simp,by simp [Cf],by simp [Cf],by simp⟩,by simp⟩,rfl,rfl⟩;show 1<=(if r.Arg=0 then 1 else r.Arg)/\(if r.Arg=0 then 1 else r.Arg)<=1000000000;split<;>omega
  |false=>
   simp only [Ad];have n1:r.Kind≠1:=by simpa using k1
   rw [k1]at hr
   cases k2:(r.Kind==2)with
   |true=>
    simp only [Af];have:=wC h hb (by simpa using k2);have e:((LO s r).bind fun v4=>some (v4.1,v4.2))=LO s r:=by cases LO s r<;>rfl
    rw [e];exact this
   |false=>
    simp only [Ad];have n2:r.Kind≠2:=by simpa using k2
    rw [k2]at hr;have hv:1<=r.Vol/\r.Vol<=9:=by simp at hr;omega
    unfold Oq DP;rw [hb];simp only [Ii,Jt,A0 n1,A0 n2]
    rcases Io s (by omega) r.Vol with⟨h1,h2⟩|⟨k,v,h1,h2,h3,_⟩
    ·rw [h1];simp only [Aa];rw [Ac (by omega),Af,Ay (.inl (N1.1 h2))];simp only [Aa,Af];rw [a];rfl
    ·rw [h1];simp only [Aa];rw [Ae (by omega),Ad];simp only [Aa];have hm:=AI h2;have i:=(Ah.1 h2).1;have hg:=N0 h.asc hm;rw [h3]at hg
     cases hc:(r.Chunk==1000000000)with
     |true=>
      simp only [Af];rw [Ay (.inr (by simpa using hc)),a];rfl
     |false=>
      simp only [Ad];have m:r.Chunk≠1000000000:=by simpa using hc
      rw [A0 (by
       rintro(hh|hh)
       ·rw [hg]at hh;cases hh
       ·exact m hh),a]
      simp only [Aa]
      cases k3:(r.Kind==3)with
      |true=>
       have e3:r.Kind=3:=by simpa using k3
       rw [Ay e3];simp only [Af];rw [Cq,ad1 (by omega)];have d1:dr s.Vols 0 (k:Int)=some (s.Vols.take k):=by
        unfold dr;rw [Ay ⟨by omega,by omega,by omega⟩];simp
       have d2:dr s.Vols ((k+1:Nat):Int) (s.Vols.length:Int)=some (s.Vols.drop (k+1)):=by
        unfold dr;rw [Ay ⟨by omega,by omega,by omega⟩,B6,B6,AZ (by simp)]
       rw [d1,d2];simp only [Aa];rw [OA (by simp;omega)];simp only [Aa];rw [CF (by simp;omega),Zv h.asc h2,h3];simp only [Aa];have hR:Ti (Store.mk (s.Vols.filter fun w=>w.Id !=r.Vol) s.Arena s.Next):=by
        refine⟨?_,h.ar,h.nx,fun v hv=>h.ids v (AM.1 hv).1,?_,?_,?_,h.few⟩
        ·have:=BV (fun w:Vol=>w.Id !=r.Vol) s.Vols;show(s.Vols.filter fun w=>w.Id !=r.Vol).length<=3;omega
        ·have:=h.asc;rw [Mv]at this⊢;exact this.filter _
        ·intro x hx;obtain⟨w,hw,rfl⟩:=AL.1 hx;exact h.root _ (AL.2 ⟨w,(AM.1 hw).1,rfl⟩)
        ·intro x hx;obtain⟨w,hw,rfl⟩:=AL.1 hx;exact h.lt _ (AL.2 ⟨w,(AM.1 hw).1,rfl⟩)
       rw [Qu hR];refine⟨_,rfl,sZ hR,?_,rfl⟩;rw [ZB hR];exact rW s (fun id=>id !=r.Vol) _ rfl rfl
      |false=>
       have n3:r.Kind≠3:=by simpa using k3
       rw [A0 n3];simp only [Ad];rw [k3]at hr;have ha:0<=r.Arg/\r.Arg<16/\0<=r.Chunk/\r.Chunk<=1000000000:=by
        cases k4:(r.Kind==4)with
        |true=>rw [k4]at hr;simp at hr;omega
        |false=>rw [k4]at hr;simp at hr;omega
       obtain⟨t,ht⟩:∃t:Nat,r.Arg=(t:Int):=⟨_,(B4 ha.1).symm⟩;rw [AH,h2];simp only [Aa];have c:=h.root _ (AL.2 ⟨v,hm,rfl⟩);rw [ht,pJ _ (by have:=h.few;omega) h.ar c (by omega) ha.2.2.1];simp only [Aa];rw [Ha];have h0:=h.small;have hR:Ti (Store.mk (s.Vols.set k (Vol.mk v.Id ((s.Arena.Knots.length:Int)+1))) (Arena.mk (JQ s.Arena.Knots v.Root t r.Chunk)) (max s.Next (r.Chunk+1))):=by
        have d:∀w∈s.Vols.set k (Vol.mk v.Id ((s.Arena.Knots.length:Int)+1)),w∈s.Vols\/w=Vol.mk v.Id ((s.Arena.Knots.length:Int)+1):=fun w hw=>D6 hw
        refine⟨by simpa using hl,ACx h.ar c (by omega) ha.2.2.1,?_,?_,?_,?_,?_,?_⟩
        ·have:=h.nx;show 1<=max s.Next (r.Chunk+1)/\max s.Next (r.Chunk+1)<=1000000000;omega
        ·intro w hw
         rcases d w hw with hw|rfl
         ·exact h.ids w hw
         ·exact h.ids v hm
        ·have:(s.Vols.set k (Vol.mk v.Id ((s.Arena.Knots.length:Int)+1))).map Vol.Id=s.Vols.map Vol.Id:=by
          rw [List.map_set];show(s.Vols.map Vol.Id).set k v.Id=_;apply CT;intro j;rw [Cp];split
          ·rename_i e;subst e;rw [Bu,Ay i,Bc,h2];rfl
          ·rfl
         rw [this];exact h.asc
        ·intro x hx;obtain⟨w,hw,rfl⟩:=AL.1 hx
         rcases d w hw with hw|rfl
         ·exact yO (h.root _ (AL.2 ⟨w,hw,rfl⟩))
         ·exact u0
        ·intro x hx y hy;obtain⟨w,hw,rfl⟩:=AL.1 hx;show y<max s.Next (r.Chunk+1)
         rcases d w hw with hw|rfl
         ·have o:=h.root _ (AL.2 ⟨w,hw,rfl⟩);have f:y∈EG s.Arena.Knots w.Root:=by rw [<-tA (X:=[BU.mk true (OH s.Arena.Knots v.Root t r.Chunk),BU.mk false (Rq s.Arena.Knots v.Root t)]) h.ar o];exact hy
          have:=h.lt _ (AL.2 ⟨w,hw,rfl⟩) y f;omega
         ·have f:y∈(EG s.Arena.Knots v.Root).set t r.Chunk:=by rw [<-tH (s:=t) (n:=r.Chunk) h.ar c (by omega)];exact hy
          rcases D6 f with f|rfl
          ·have:=h.lt _ (AL.2 ⟨v,hm,rfl⟩) y f;omega
          ·omega
        ·show(JQ s.Arena.Knots v.Root t r.Chunk).length<=1000;unfold JQ;simp;omega
       have l:BW (Store.mk (s.Vols.set k (Vol.mk v.Id ((s.Arena.Knots.length:Int)+1))) (Arena.mk (JQ s.Arena.Knots v.Root t r.Chunk)) (max s.Next (r.Chunk+1)))=oP (BW s) r.Vol t r.Chunk:=by
        unfold BW oP;simp only [Es];apply CT;intro j;rw [Bc,Bc,Cp];by_cases e:k=j
        ·subst e;rw [Ay rfl,Ay i,h2];simp only [Bz,Function.comp];rw [Ay h3,tH h.ar c (by omega)]
        ·rw [A0 e]
         cases hj:s.Vols[j]? with
         |none=>rfl
         |some w=>
          have p:=AI hj;have u:w.Id≠r.Vol:=by
           intro e2;have gi:(s.Vols.map Vol.Id)[k]?=some v.Id:=by rw [Bc,h2];rfl
           have gj:(s.Vols.map Vol.Id)[j]?=some w.Id:=by rw [Bc,hj];rfl
           rcases Mu k j with q|q|q
           ·have:=Ps h.asc q gi gj;omega
           ·exact e q
           ·have:=Ps h.asc q gj gi;omega
          simp only [Bz,Function.comp];rw [A0 u];have:=tA (X:=[BU.mk true (OH s.Arena.Knots v.Root t r.Chunk),BU.mk false (Rq s.Arena.Knots v.Root t)]) h.ar (h.root _ (AL.2 ⟨w,p,rfl⟩));unfold JQ;rw [this]
       have z:∀b:Bool,b=decide (r.Chunk>=s.Next)->(bif b then((Gs (Store.mk (s.Vols.set k (Vol.mk v.Id ((s.Arena.Knots.length:Int)+1))) (Arena.mk (JQ s.Arena.Knots v.Root t r.Chunk)) (ad r.Chunk 1))).bind fun v11=>some (v11,true))else((Gs (Store.mk (s.Vols.set k (Vol.mk v.Id ((s.Arena.Knots.length:Int)+1))) (Arena.mk (JQ s.Arena.Knots v.Root t r.Chunk)) s.Next)).bind fun v12=>some (v12,true)))=(Gs (Store.mk (s.Vols.set k (Vol.mk v.Id ((s.Arena.Knots.length:Int)+1))) (Arena.mk (JQ s.Arena.Knots v.Root t r.Chunk)) (max s.Next (r.Chunk+1)))).bind fun v=>some (v,true):=by
        intro b hb;have:=h.nx;by_cases e:r.Chunk>=s.Next
        ·rw [hb,Ac e,Af,C5 (by omega) (by omega),show max s.Next (r.Chunk+1)=r.Chunk+1 by omega]
        ·rw [hb,Ae e,Ad,show max s.Next (r.Chunk+1)=s.Next by omega]
       rw [z _ rfl,Qu hR];refine⟨_,rfl,sZ hR,?_,rfl⟩;rw [ZB hR,l,B6]
end Go.TI
