/- Plans for a drawn device. No condition. -/
import Derived.Test.YtiemmklnnjembaaGreatPLD
namespace Go.TI
open Go
def u32 (s:Int):Prop:=0<=s/\s<4294967296
theorem sM (s:Int) (hs:u32 s):∃v,Az (fun s:Int×Int=>HA s.1 s.2) (s,0)=some v/\Az (fun s:Int×Int=>HI s.1 s.2) (s,0)=some v/\u32 v:=
 WR (body:=fun s:Int×Int=>HA s.1 s.2) (body':=fun s:Int×Int=>HI s.1 s.2) (fun(s:Int) i=>(s,i)) 8 (fun _ s=>u32 s) u32
  (fun s i hi hs=>by
   simp only [HA,HI];rw [Ac (by omega:(i:Int)<8),Af,Af,an1 hs.1 hs.2,<-ADF hs.1 hs.2];refine⟨rfl,.inl ?_⟩;have hw:u32 (IntKind.u32.wrap (Int.tdiv s 2)):=by rw [IntKind.wrap_u32];constructor<;>omega
   cases Int.tmod s 2==1
   ·exact⟨_,by rw [Ad,ad1 (by omega)],hw⟩
   ·exact⟨_,by rw [Af,ad1 (by omega)],ACi _ _⟩)
  (fun s hs=>by
   simp only [HA,HI]
   exact⟨rfl,s,rfl,hs⟩) (s:=s) hs
theorem sL (s:Int) (t:ByteArray) (hs:u32 s) (ht:(L t).length<=9223372036854775806):∃v,PN s t=some v/\Qc s t=some v/\u32 v:=by
 obtain⟨v,h1,h2,h3⟩:=WR (body:=fun s:Int×Int=>Jf t s.1 s.2) (body':=fun s:Int×Int=>Js t s.1 s.2) (fun(s:Int) i=>(s,i)) (L t).length (fun _ s=>u32 s) u32
  (fun s i hi hs=>by
   obtain⟨v,h1,h2,h3⟩:=sM (xr s (IntKind.u32.wrap ((L t)[i]).toNat)) (ACi _ _);simp only [Jf,Js];rw [Ac (by rw [BG];omega:(i:Int)<FE t),Af,Af,Fe t hi,Aa,Aa,h1,h2]
   exact⟨rfl,.inl ⟨v,by rw [Aa,ad1 (by omega)],h3⟩⟩)
  (fun s hs=>by
   simp only [Jf,Js];rw [Ae (by rw [BG];omega:¬((L t).length:Int)<FE t),Ad,Ad]
   exact⟨rfl,s,rfl,hs⟩) (s:=s) hs
 unfold PN Qc;rw [h1,h2];exact⟨v,rfl,rfl,h3⟩
theorem n8 (t:ByteArray) (ht:(L t).length<=9223372036854775806):∃v,Mx t=some v/\Va t=some v/\u32 v:=by
 obtain⟨v,h1,h2,h3⟩:=sL 4294967295 t ⟨by omega,by omega⟩ ht;unfold Mx Va;rw [h1,h2];exact⟨v,rfl,rfl,h3⟩
def four (v:Int):ByteArray:=GV [(IntKind.u8.wrap (Int.fdiv v (2^(min (24:Int).toNat IntKind.u32.bits)))),(IntKind.u8.wrap (Int.fdiv v (2^(min (16:Int).toNat IntKind.u32.bits)))),(IntKind.u8.wrap (Int.fdiv v (2^(min (8:Int).toNat IntKind.u32.bits)))),(IntKind.u8.wrap v)]
theorem Sb (v:Int):(L (four v)).length=4:=by rw [four,Iz];rfl
theorem wW (t:ByteArray):RQ t=Jh t:=by
 unfold RQ Jh;by_cases h:(FE t)>20000
 ·rw [Ac h];rfl
 ·rw [Ae h,Ad,Ad];rw [BG]at h;obtain⟨v,h1,h2,_⟩:=n8 t (by omega);rw [h1,h2];rfl
theorem Th (t:ByteArray):(20000<(L t).length->Jh t=some (bs [],false))/\((L t).length<=20000->∃v,Mx t=some v/\Jh t=some (t++four v,true)):=by
 unfold Jh;rw [BG];refine⟨fun h=>by rw [Ac (by omega),Af],fun h=>?_⟩;obtain⟨v,h1,h2,_⟩:=n8 t (by omega);rw [Ae (by omega),Ad,h1];refine⟨v,rfl,?_⟩;have:JK v=some (four v):=rfl;rw [Aa,this,Aa,Gy _ _ (by rw [Sb];omega),Aa]
theorem nY (t:ByteArray) (ht:(L t).length<=9223372036854775806):∃u ok,JL t=some (u,ok)/\Ou t=some (u,ok)/\(ok=true->(L u).length<=20000/\∃v,Mx u=some v/\t=u++four v)/\(ok=false->u=bs []):=by
 unfold JL Ou;have e4:sb (FE t) 4=((L t).length:Int)-4:=by rw [BG,C0 (by omega) (by omega)]
 rw [e4];by_cases h4:(L t).length<4
 ·rw [Ac (by omega:((L t).length:Int)-4<0),Ac (by rw [BG];omega:FE t<4)];exact⟨bs [],false,rfl,rfl,by simp,fun _=>rfl⟩
 ·rw [Ae (by omega:¬((L t).length:Int)-4<0),Ae (by rw [BG];omega:¬FE t<4)];simp only [Ad];have en:((L t).length:Int)-4=(((L t).length-4:Nat):Int):=by omega
  rw [en,BG];have b:sub t 0 (((L t).length-4:Nat):Int)=some (t.extract 0 ((L t).length-4)):=EV t (i:=0) (by omega) (by omega);have a:sub t (((L t).length-4:Nat):Int) ((L t).length:Int)=some (t.extract ((L t).length-4) (L t).length):=EV t (by omega) (by omega);rw [b,a];simp only [Aa];have hu:(L (t.extract 0 ((L t).length-4))).length=(L t).length-4:=by rw [H1];simp
  obtain⟨k1,k2⟩:=Th (t.extract 0 ((L t).length-4));rw [wW];by_cases hb:20000<(L t).length-4
  ·rw [Ac (by omega:(((L t).length-4:Nat):Int)>20000),k1 (by omega)];exact⟨bs [],false,rfl,rfl,by simp,fun _=>rfl⟩
  ·obtain⟨v,h1,h2⟩:=k2 (by omega);rw [Ae (by omega:¬(((L t).length-4:Nat):Int)>20000),h1,h2];have h3:JK v=some (four v):=rfl;simp only [Ad,Aa,h3,Aq];have c:seq (t.extract ((L t).length-4) (L t).length) (four v)=seq (t.extract 0 ((L t).length-4)++four v) t:=by
    rw [OI,OI,D6,H1,H1,D0,A5,A5];have e1:List.take ((L t).length-((L t).length-4)) (List.drop ((L t).length-4) (L t))=(L t).drop ((L t).length-4):=AY (by simp);have e2:List.take ((L t).length-4-0) (List.drop 0 (L t))=(L t).take ((L t).length-4):=by simp
    rw [e1,e2];constructor
    ·intro h;rw [<-h,Br]
    ·intro h;have h':(L t).take ((L t).length-4)++L (four v)=(L t).take ((L t).length-4)++(L t).drop ((L t).length-4):=by rw [Br];exact h
     exact(List.append_cancel_left h').symm
   rw [c]
   cases hs:seq (t.extract 0 ((L t).length-4)++four v) t with
   |false=>exact⟨bs [],false,rfl,rfl,by simp,fun _=>rfl⟩
   |true=>
    rw [Hg,A5]at hs;exact⟨_,true,rfl,rfl,fun _=>⟨by omega,v,h1,hs.symm⟩,by simp⟩
theorem IK (n:Nat) (h:n<=1099511627776):∃s,HY (n:Int)=some s/\L s=Cm n:=by
 unfold HY;obtain⟨m,o,h1,h2,h3,h4⟩:=aS (body:=fun s:Int×List Int=>Ph s.1 s.2) (fun _ _=>rfl) n [] (by simpa using h);rw [h1,Aa];have:IntKind.u8.wrap (m:Int)=m:=by rw [IntKind.wrap_u8];omega
 rw [this,CI (by simp only [An,Bj]at h3⊢;omega),Aa];refine⟨_,rfl,?_⟩;rw [Iz,h4];simp
def ACr (t:ByteArray) (at_:Int) (r:Int×Int×Bool):Prop:=
 (r.2.2=false/\r.1=0/\r.2.1=0)\/(r.2.2=true/\∃(a b n:Nat),at_=a/\r.2.1=b/\r.1=n/\a<b/\b<=(L t).length/\n<=1000000000/\Cm n=((L t).drop a).take (b-a))
theorem V0 (l:List UInt8) (a k:Nat) (h:a+k<l.length):(l.drop a).take (k+1)=(l.drop a).take k++ [l[a+k]]:=by
 rw [Aw (by simp;omega),Rj]
theorem fI (k:Nat) (h:k<5):(128:Nat)^k<=268435456:=by
 have:k<=4:=by omega
 calc 128^k<=128^4:=Nat.pow_le_pow_right (by omega) this
  _=268435456:=by decide
theorem UM:∀ds:List UInt8,EE ds<128^ds.length
 |[]=>by simp [EE]
 |d::ds=>by
  have:=UM ds;simp only [EE,Av,UI];omega
theorem ABr (x k:Nat) (hx:x<128) (hk:k<5):shl .i64 (x:Int) (ml 7 (k:Int))=some ((x*128^k:Nat):Int):=by
 have h7:ml 7 (k:Int)=((7*k:Nat):Int):=by rw [No (by omega) (by omega)];omega
 unfold shl;rw [h7,A0 (by omega)];have e:(2:Int)^(min ((7*k:Nat):Int).toNat IntKind.i64.bits)=((128^k:Nat):Int):=by
  have hb:IntKind.i64.bits=64:=rfl;have h128:(128:Nat)^k=2^(7*k):=by rw [Nat.pow_mul]
  rw [hb,B6,Nat.min_eq_left (by omega),h128]
  norm_cast
 rw [e];have hp:=fI k hk;have hm:x*128^k<=128*268435456:=Zx (by omega) hp;have ec:(x:Int)*((128^k:Nat):Int)=((x*128^k:Nat):Int):=by norm_cast
 rw [ec,MW (by omega) (by omega)]
theorem bP (x:Nat):Int.tmod (x:Int) 128=((x %128:Nat):Int):=rfl
theorem Kg (t:ByteArray) (at_:Int) (ht:(L t).length<=4611686018427387904) (p:oI at_):∃r,IB t at_=some r/\LA t at_=some r/\ACr t at_ r:=by
 have fails:∀(at_:Int),(at_<0\/((L t).length:Int)<=at_)->oI at_->LA t at_=some (0,0,false):=by
  intro at_ h p;unfold LA;rw [AB];simp only [Gw];rw [Ac (by omega:(0:Int)<5),Af];by_cases h0:at_>=0
  ·rw [Ac h0,Af,BG,C0 (by omega) (by omega),Ae (by omega)];rfl
  ·rw [Ae h0];rfl
 by_cases h5:0<=at_/\at_<(L t).length
 ·obtain⟨a,rfl⟩:=Ds h5.1;have ha:a<(L t).length:=by omega
  have key:∀(B1:Int×Int×Int->Option ((Int×Int×Int)⊕((Unit)⊕((Int×Int×Bool))))) (B2:Int×Int->Option ((Int×Int)⊕((Unit)⊕((Int×Int×Bool))))),(∀n sc i,B1 (n,sc,i)=Dw t (a:Int) n sc i)->(∀n k,B2 (n,k)=Gw t (a:Int) n k)->∀(m k:Nat),k+m=5->a+k<=(L t).length->(∀d∈((L t).drop a).take k,128<=d.toNat)->
    ∃r,(Az B1 (((EE (((L t).drop a).take k):Nat):Int),((128^k:Nat):Int),((a+k:Nat):Int))=some r/\Az B2 (((EE (((L t).drop a).take k):Nat):Int),(k:Int))=some r)/\(r= .inl ()\/∃q,r= .inr q/\ACr t (a:Int) q):=by
   intro B1 B2 u v m
   induction m with
   |zero=>
    intro k hk h6 hd;have f:k=5:=by omega
    subst f;refine⟨.inl (),⟨?_,?_⟩,.inl rfl⟩
    ·rw [AB];simp only [u,Dw];rw [C7 (by omega) (by omega),Ae (by omega:¬((a+5:Nat):Int)<(a:Int)+5)];cases decide (((a+5:Nat):Int)<FE t)<;>rfl
    ·rw [AB];simp only [v,Gw];rw [Ae (by omega:¬((5:Nat):Int)<5)];rfl
   |succ m ih=>
    intro k hk h6 hd;rw [AB,AB B2];simp only [u,v,Dw,Gw];have f:k<5:=by omega
    rw [C7 (b:=5) (by omega) (by omega),Ac (by omega:((a+k:Nat):Int)<(a:Int)+5),Ac (by omega:(k:Int)<5),Ac (by omega:(a:Int)>=0),BG,C0 (by omega) (by omega)];by_cases w:a+k<(L t).length
    ·rw [Ac (by omega:((a+k:Nat):Int)<((L t).length:Int)),Ac (by omega:(a:Int)<((L t).length:Int)-k)];have eak:ad (a:Int) (k:Int)=((a+k:Nat):Int):=by rw [C7 (by omega) (by omega)];omega
     simp only [Af,Aa,Fe t w,eak];have hx:=i9 ((L t)[a+k]);have g:=V0 (L t) a k w;have l:(((L t).drop a).take k).length=k:=by simp;omega
     have j:=Ms (((L t).drop a).take k) [(L t)[a+k]];rw [<-g,l]at j;have h7:=UM (((L t).drop a).take k);rw [l]at h7;have hp:=fI k f;generalize a3:(L t)[a+k]=x at hx g j;simp only [EE,Nat.mul_zero,ES]at j;have hw:IntKind.i64.wrap (x.toNat:Int)=x.toNat:=MW (by omega) (by omega);have a1:x.toNat %128*128^k<=127*268435456:=Zx (by omega) hp;have emul:ml ((x.toNat %128:Nat):Int) ((128^k:Nat):Int)=((x.toNat %128*128^k:Nat):Int):=by
      have ec:((x.toNat %128:Nat):Int)*((128^k:Nat):Int)=((x.toNat %128*128^k:Nat):Int):=by norm_cast
      rw [No (by rw [ec];omega) (by rw [ec];omega),ec]
     have enew:ad (((EE (((L t).drop a).take k):Nat)):Int) ((x.toNat %128*128^k:Nat):Int)=((EE (((L t).drop a).take (k+1)):Nat):Int):=by
      rw [C7 (by omega) (by omega),j,sQ (128^k)];omega
     rw [hw,bP,ABr _ k (by omega) f];simp only [Aa,emul,enew];by_cases o:x.toNat<128
     ·rw [Ac (by omega:(x.toNat:Int)<128),Ae (by omega:¬(x.toNat:Int)>=128)];simp only [Af,Ad];have ek1:ad ((a+k:Nat):Int) 1=((a+k+1:Nat):Int):=ad1 (by omega);have c:=aR (((L t).drop a).take k) x hd o;rw [<-g]at c;have h8:(((L t).drop a).take k≠ [])↔0<k:=by
       rw [<-H4,l]
      rw [h8]at c;have y:sub t (a:Int) ((a+k+1:Nat):Int)=some (t.extract a (a+k+1)):=EV t (by omega) (by omega);rw [ek1,y];by_cases a2:EE (((L t).drop a).take (k+1))>1000000000
      ·rw [Ac (by omega:((EE (((L t).drop a).take (k+1)):Nat):Int)>1000000000)];refine⟨.inr (0,0,false),⟨rfl,?_⟩,.inr ⟨_,rfl,.inl ⟨rfl,rfl,rfl⟩⟩⟩;cases(x.toNat:Int)==0
       ·rfl
       ·cases decide ((k:Int)>0)<;>rfl
      ·rw [Ae (by omega:¬((EE (((L t).drop a).take (k+1)):Nat):Int)>1000000000)];obtain⟨s,h9,a0⟩:=IK (EE (((L t).drop a).take (k+1))) (by omega);simp only [Ad,Aa,h9];have z:seq s (t.extract a (a+k+1))=decide (¬(x.toNat=0/\0<k)):=by
        rw [OI,a0,H1,show a+k+1-a=k+1 by omega,D0,A5,A5];exact c
       rw [z];by_cases hz:x.toNat=0/\0<k
       ·rw [Ae (fun e=>e hz)];refine⟨.inr (0,0,false),⟨rfl,?_⟩,.inr ⟨_,rfl,.inl ⟨rfl,rfl,rfl⟩⟩⟩;have:((x.toNat:Int)==0)=true:=by rw [hz.1];rfl
        rw [this,Ac (by omega:(k:Int)>0)];rfl
       ·rw [Ac hz];refine⟨.inr (((EE (((L t).drop a).take (k+1)):Nat):Int),((a+k+1:Nat):Int),true),⟨rfl,?_⟩,.inr ⟨_,rfl,.inr ⟨rfl,a,a+k+1,_,rfl,rfl,rfl,by omega,by omega,by omega,?_⟩⟩⟩
        ·by_cases h4:x.toNat=0
         ·have:((x.toNat:Int)==0)=true:=by rw [h4];rfl
          rw [this,Ae (by omega:¬(k:Int)>0)];rfl
         ·have:((x.toNat:Int)==0)=false:=by simpa using h4
          rw [this];rfl
        ·rw [show a+k+1-a=k+1 by omega];exact c.2 hz
     ·rw [Ae (by omega:¬(x.toNat:Int)<128),Ac (by omega:(x.toNat:Int)>=128)];simp only [Af,Ad];have e1:ml ((128^k:Nat):Int) 128=((128^(k+1):Nat):Int):=by
       rw [No (by omega) (by omega),UI];norm_cast
      have e2:ad ((a+k:Nat):Int) 1=((a+(k+1):Nat):Int):=ad1 (by omega);have e3:ad (k:Int) 1=((k+1:Nat):Int):=ad1 (by omega);rw [e1,e2,e3]
      exact ih (k+1) (by omega) (by omega) (by
       rw [g];intro d hd'
       rcases Aj.1 hd' with hd'|hd'
       ·exact hd d hd'
       ·simp at hd';subst hd';omega)
    ·rw [Ae (by omega:¬((a+k:Nat):Int)<((L t).length:Int)),Ae (by omega:¬(a:Int)<((L t).length:Int)-k)];exact⟨.inl (),⟨rfl,rfl⟩,.inl rfl⟩
  obtain⟨r,⟨h1,h2⟩,h3⟩:=key (fun s=>Dw t (a:Int) s.1 s.2.1 s.2.2) (fun s=>Gw t (a:Int) s.1 s.2) (fun _ _ _=>rfl) (fun _ _=>rfl) 5 0 rfl (by omega) (by simp);unfold IB LA;have hw:BK (a:Int) 0 (FE t)=some true:=by
   unfold BK;rw [Ac (by omega:(a:Int)>=0),Af,BG,Ac (by omega)]
  rw [hw];simp only [Aa,Aq,Ad];simp only [HL,EE,Nat.pow_zero,ES]at h1 h2;rw [show((0:Nat):Int)=0 from rfl,show((1:Nat):Int)=1 from rfl]at h1;rw [show((0:Nat):Int)=0 from rfl]at h2;rw [h1,h2]
  rcases h3 with rfl|⟨q,rfl,h3⟩
  ·exact⟨_,rfl,rfl,.inl ⟨rfl,rfl,rfl⟩⟩
  ·exact⟨q,rfl,rfl,h3⟩
 ·have hf:=fails at_ (by omega) p;refine⟨(0,0,false),?_,hf,.inl ⟨rfl,rfl,rfl⟩⟩;unfold IB;by_cases h0:0<=at_/\at_<=(L t).length
  ·have hw:BK at_ 0 (FE t)=some true:=by
    unfold BK;rw [Ac (by omega:at_>=0),Af,BG,Ac (by omega)]
   rw [hw];simp only [Aa,Aq,Ad];rw [AB];simp only [Dw];rw [Ae (by rw [BG];omega:¬at_<FE t)];rfl
  ·have hw:BK at_ 0 (FE t)=some false:=by
    unfold BK;by_cases h1:at_>=0
    ·rw [Ac h1,Af,BG,Ae (by omega)]
    ·rw [Ae h1,Ad]
   rw [hw];rfl
end Go.TI
namespace Go.TI
open Go
theorem nJ:Or=BK:=rfl
theorem Ex {α:Type} {l:List α} {i:Int} {x:α} (h:gi l i=some x):0<=i/\l[i.toNat]?=some x:=by
 unfold gi at h;split at h
 ·exact⟨by assumption,h⟩
 ·cases h
def Zv (f:Flash):Prop:=f.Blocks.length<=1048576/\∀b∈f.Blocks,b.Leaves.length<=1048576
theorem WX (x a b:Int):BK x a b=some (decide (a<=x)&&decide (x<=b)):=by
 unfold BK;by_cases h:x>=a
 ·rw [Ac h,Af,CT]
 ·rw [Ae h,Ad,Bool.false_and]
end Go.TI
namespace Go.TI
open Go
theorem Tj (p:Page):∃v,Jl p=some v/\RX p=some v/\(v=true->(p.Kind=1\/p.Kind=2)/\(1<=p.Seq/\p.Seq<=1000000000)/\(1<=p.Tx/\p.Tx<=1000000000)/\(1<=p.Count/\p.Count<=9)/\(0<=p.Part/\p.Part<p.Count)/\FE p.Text<=90):=by
 unfold Jl RX;rw [nJ];simp only [WX,Aa];by_cases h1:1<=p.Seq/\p.Seq<=1000000000
 ·by_cases h2:1<=p.Tx/\p.Tx<=1000000000
  ·by_cases h3:1<=p.Count/\p.Count<=9
   ·have e:sb p.Count 1=p.Count-1:=C0 (by omega) (by omega);rw [e];by_cases h4:0<=p.Part/\p.Part<=p.Count-1
    ·by_cases h5:FE p.Text>90
     ·refine⟨false,?_,?_,by simp⟩
      ·cases hk:(decide (1<=p.Kind)&&decide (p.Kind<=2))<;>simp [h1,h2,h3,h4,h5]
      ·simp [h1,h2,h3,h4,h5]
     ·by_cases k2:p.Kind=2
      ·exact⟨true,by simp [h1,h2,h3,h4,h5,k2],by simp [h1,h2,h3,h4,h5,k2],fun _=>⟨.inr k2,h1,h2,h3,⟨h4.1,by omega⟩,by omega⟩⟩
      ·by_cases k1:p.Kind=1
       ·exact⟨p.Count==1,by simp [h1,h2,h3,h4,h5,k1],by simp [h1,h2,h3,h4,h5,k1],fun _=>⟨.inl k1,h1,h2,h3,⟨h4.1,by omega⟩,by omega⟩⟩
       ·have hk:(decide (1<=p.Kind)&&decide (p.Kind<=2))=false:=by
         rw [DM,AP,AP];omega
        have e1:(p.Kind==1)=false:=by simpa using k1
        have e2:(p.Kind==2)=false:=by simpa using k2
        exact⟨false,by simp [hk],by simp [h1,h2,h3,h4,h5,e1,e2],by simp⟩
    ·have e4:(decide (0<=p.Part)&&decide (p.Part<=p.Count-1))=false:=by
      rw [DM,AP,AP];omega
     refine⟨false,?_,?_,by simp⟩
     ·cases hk:(decide (1<=p.Kind)&&decide (p.Kind<=2))<;>simp [h1,h2,h3,e4]
     ·simp [h1,h2,h3,e4]
   ·have e3:(decide (1<=p.Count)&&decide (p.Count<=9))=false:=by
     rw [DM,AP,AP];omega
    refine⟨false,?_,?_,by simp⟩
    ·cases hk:(decide (1<=p.Kind)&&decide (p.Kind<=2))<;>simp [h1,h2,e3]
    ·simp [h1,h2,e3]
  ·have e2:(decide (1<=p.Tx)&&decide (p.Tx<=1000000000))=false:=by
    rw [DM,AP,AP];omega
   refine⟨false,?_,?_,by simp⟩
   ·cases hk:(decide (1<=p.Kind)&&decide (p.Kind<=2))<;>simp [h1,e2]
   ·simp [h1,e2]
 ·have e1:(decide (1<=p.Seq)&&decide (p.Seq<=1000000000))=false:=by
   rw [DM,AP,AP];omega
  refine⟨false,?_,?_,by simp⟩
  ·cases hk:(decide (1<=p.Kind)&&decide (p.Kind<=2))<;>simp [e1]
  ·simp [e1]
def ZZ:Page:=Page.mk 0 0 0 0 0 (bs [])
theorem Gt (u:ByteArray) (a:Int) (hu:(L u).length<=20000) (ha:oI a):Ei (Ej.mk u a true)=some (0,Ej.mk u a true):=by
 obtain⟨r,h1,_,_⟩:=Kg u a (by omega) ha;unfold Ei;simp only [h1,Aa,Af]
theorem IJ (u:ByteArray) (a:Int) (hu:(L u).length<=20000) {r:Int×Int×Bool} (h:IB u a=some r):Ei (Ej.mk u a false)=some (bif r.2.2 then(r.1,Ej.mk u r.2.1 false)else(0,Ej.mk u a true)):=by
 unfold Ei;simp only [h,Aa,Ad];cases r.2.2<;>rfl
theorem O5 (l:List UInt8) {a b:Nat} (h:a<=b):l.drop a=(l.drop a).take (b-a)++l.drop b:=by
 have:=(Br (b-a) (l.drop a)).symm;rw [Cx,show a+(b-a)=b by omega]at this;exact this
theorem TW (p:Page) (u:ByteArray) (k:UInt8) (n1 n2 n3 n4:Nat) (hp:Jl p=some true) (hk:p.Kind=(k.toNat:Int)) (h1:p.Seq=n1) (h2:p.Tx=n2) (h3:p.Part=n3) (h4:p.Count=n4)
  (b1:n1<=1000000000) (b2:n2<=1000000000) (b3:n3<=1000000000) (b4:n4<=1000000000) (hu:(L u).length<=20000) (e:L u=[k]++Cm n1++Cm n2++Cm n3++Cm n4++L p.Text):EL p=Jh u:=by
 obtain⟨s1,q1,r1⟩:=IK n1 (by omega);obtain⟨s2,q2,r2⟩:=IK n2 (by omega);obtain⟨s3,q3,r3⟩:=IK n3 (by omega);obtain⟨s4,q4,r4⟩:=IK n4 (by omega);have hl:=BI List.length e;simp only [Ag,An]at hl;have hb:L6 p.Kind=some (GV [IntKind.u8.wrap p.Kind]):=rfl;have a:L (GV [IntKind.u8.wrap p.Kind])=[k]:=by
  rw [Iz,hk,IntKind.wrap_u8];have:=i9 k;have e2:((k.toNat:Int) %256).toNat=k.toNat:=by omega
  simp only [B5,sS,e2,UInt8.ofNat_toNat]
 unfold EL;rw [hp];simp only [Aa,Aq,Ad,hb,h1,h2,h3,h4,q1,q2,q3,q4];rw [Gy _ _ (by rw [a,r1];simp only [An];omega),Aa];rw [Gy _ _ (by rw [D6,a,r1,r2];simp only [Ag,An];omega),Aa];rw [Gy _ _ (by rw [D6,D6,a,r1,r2,r3];simp only [Ag,An];omega),Aa];rw [Gy _ _ (by rw [D6,D6,D6,a,r1,r2,r3,r4];simp only [Ag,An];omega),Aa];rw [Gy _ _ (by rw [D6,D6,D6,D6,a,r1,r2,r3,r4];simp only [Ag,An];omega),Aa];have:GV [IntKind.u8.wrap p.Kind]++s1++s2++s3++s4++p.Text=u:=by
  apply GU;rw [D6,D6,D6,D6,D6,a,r1,r2,r3,r4,e]
 rw [this]
 cases Jh u with
 |none=>rfl
 |some v=>rfl
theorem IP (t:ByteArray) (ht:(L t).length<=9223372036854775806):∃p ok,EK t=some (p,ok)/\Ow t=some (p,ok)/\(ok=false->p=ZZ)/\(ok=true->Jl p=some true):=by
 obtain⟨u,uok,k,m,n,o⟩:=nY t ht;unfold EK Ow;rw [k,m];simp only [Aa];have o1:oI 1:=⟨by omega,by omega⟩
 cases uok with
 |false=>
  have:=o rfl;subst this;have hz:(L (bs [])).length<=20000:=by rw [DJ];simp
  simp only [Bg,Af,Aa,Gt _ _ hz o1];exact⟨ZZ,false,rfl,rfl,fun _=>rfl,by simp⟩
 |true=>
  obtain⟨f,v,hv,q⟩:=n rfl;simp only [Aq,Ad,Aa];by_cases he:(L u).length<1
  ·have h:seq u (bs [])=true:=by
    rw [OI,A5,DJ];exact A9 (by omega)
   rw [Ac (by rw [BG];omega:FE u<1),h];simp only [Af,Gt _ _ f o1,Aa];exact⟨ZZ,false,rfl,rfl,fun _=>rfl,by simp⟩
  ·have h:seq u (bs [])=false:=by
    rw [OI,AP,DJ];intro e;rw [e]at he;simp at he
   rw [Ae (by rw [BG];omega:¬FE u<1),h];simp only [Ad];have four_:∀(B:Int×Int×Int×Int×Int×Int->Option ((Int×Int×Int×Int×Int×Int)⊕((Int×Int×Int×Int×Int)⊕((Page×Bool))))),(∀x y a b c d,B (x,y,a,b,c,d)=Ef (u,true) x y a b c d)->
     ∃(a:Int) (m1 m2 m3 m4:Int) (bad:Bool),(∃c1 c2 c3,Ei (Ej.mk u 1 false)=some (m1,c1)/\Ei c1=some (m2,c2)/\Ei c2=some (m3,c3)/\Ei c3=some (m4,Ej.mk u a bad))/\
      Az B (1,0,0,0,0,0)=some (bif bad then .inr (ZZ,false)else .inl (a,m1,m2,m3,m4))/\(bad=false->∃(a1 a2 a3 a4 n1 n2 n3 n4:Nat),m1=n1/\m2=n2/\m3=n3/\m4=n4/\a=a4/\1<a1/\a1<a2/\a2<a3/\a3<a4/\a4<=(L u).length/\n1<=1000000000/\n2<=1000000000/\n3<=1000000000/\n4<=1000000000/\
       Cm n1=((L u).drop 1).take (a1-1)/\Cm n2=((L u).drop a1).take (a2-a1)/\Cm n3=((L u).drop a2).take (a3-a2)/\Cm n4=((L u).drop a3).take (a4-a3)):=by
    intro B hB;obtain⟨r1,p1,q1,w1⟩:=Kg u 1 (by omega) o1;have g1:=IJ u 1 f p1;rw [AB,hB];unfold Ef;rw [Ac (by omega:(0:Int)<4),Af,q1,Aa]
    rcases w1 with⟨w1,w2,w3⟩|⟨w1,a0',a1,n1,z0,z1,z2,z3,z4,z5,z6⟩
    ·rw [w1]at g1⊢;exact⟨1,0,0,0,0,true,⟨_,_,_,g1,Gt u 1 f o1,Gt u 1 f o1,Gt u 1 f o1⟩,rfl,by simp⟩
    have ea0:a0'=1:=by omega
    subst ea0;rw [w1]at g1⊢;have x1:oI r1.2.1:=⟨by omega,by omega⟩;simp only [Aq,Ad,Af]at g1⊢;rw [show((0:Int)==0)=true from rfl,Af,show ad 0 1=1 from ad1 (i:=0) (by omega)];simp only;obtain⟨r2,p2,q2,y1⟩:=Kg u r1.2.1 (by omega) x1;have g2:=IJ u r1.2.1 f p2;rw [AB,hB];unfold Ef;rw [Ac (by omega:(1:Int)<4),Af,q2,Aa]
    rcases y1 with⟨y1,_,_⟩|⟨y1,b0,a2,n2,y2,y3,y4,y5,y6,y7,y8⟩
    ·rw [y1]at g2⊢;exact⟨r1.2.1,r1.1,0,0,0,true,⟨_,_,_,g1,g2,Gt u _ f x1,Gt u _ f x1⟩,rfl,by simp⟩
    have eb:b0=a1:=by omega
    subst eb;rw [y1]at g2⊢;have x2:oI r2.2.1:=⟨by omega,by omega⟩;simp only [Aq,Ad,Af]at g2⊢;rw [show((1:Int)==0)=false from rfl,Ad,show((1:Int)==1)=true from rfl,Af,show ad 1 1=2 from ad1 (i:=1) (by omega)];simp only;obtain⟨r3,p3,q3,k1⟩:=Kg u r2.2.1 (by omega) x2;have g3:=IJ u r2.2.1 f p3;rw [AB,hB];unfold Ef;rw [Ac (by omega:(2:Int)<4),Af,q3,Aa]
    rcases k1 with⟨k1,_,_⟩|⟨k1,c0,a3,n3,k2,k3,k4,k5,k6,k7,k8⟩
    ·rw [k1]at g3⊢;exact⟨r2.2.1,r1.1,r2.1,0,0,true,⟨_,_,_,g1,g2,g3,Gt u _ f x2⟩,rfl,by simp⟩
    have ec:c0=a2:=by omega
    subst ec;rw [k1]at g3⊢;have x3:oI r3.2.1:=⟨by omega,by omega⟩;simp only [Aq,Ad,Af]at g3⊢;rw [show((2:Int)==0)=false from rfl,Ad,show((2:Int)==1)=false from rfl,Ad,show((2:Int)==2)=true from rfl,Af,show ad 2 1=3 from ad1 (i:=2) (by omega)];simp only;obtain⟨r4,p4,q4,l1⟩:=Kg u r3.2.1 (by omega) x3;have g4:=IJ u r3.2.1 f p4;rw [AB,hB];unfold Ef;rw [Ac (by omega:(3:Int)<4),Af,q4,Aa]
    rcases l1 with⟨l1,_,_⟩|⟨l1,d0,a4,n4,l2,l3,l4,l5,l6,l7,l8⟩
    ·rw [l1]at g4⊢;exact⟨r3.2.1,r1.1,r2.1,r3.1,0,true,⟨_,_,_,g1,g2,g3,g4⟩,rfl,by simp⟩
    have ed:d0=a3:=by omega
    subst ed;rw [l1]at g4⊢;simp only [Aq,Ad,Af]at g4⊢;rw [show((3:Int)==0)=false from rfl,Ad,show((3:Int)==1)=false from rfl,Ad,show((3:Int)==2)=false from rfl,Ad,show((3:Int)==3)=true from rfl,Af,show ad 3 1=4 from ad1 (i:=3) (by omega)];simp only;rw [AB,hB];unfold Ef;rw [Ae (by omega:¬(4:Int)<4),Ad];exact⟨r4.2.1,r1.1,r2.1,r3.1,r4.1,false,⟨_,_,_,g1,g2,g3,g4⟩,rfl,fun _=>⟨b0,c0,d0,a4,n1,n2,n3,n4,z2,y4,k4,l4,l3,z3,y5,k5,l5,l6,z5,y7,k7,l7,z6,y8,k8,l8⟩⟩
   obtain⟨a,m1,m2,m3,m4,bad,⟨c1,c2,c3,f1,f2,f3,f4⟩,f5,f6⟩:=four_ (fun s:Int×Int×Int×Int×Int×Int=>Ef (u,true) s.1 s.2.1 s.2.2.1 s.2.2.2.1 s.2.2.2.2.1 s.2.2.2.2.2) (fun _ _ _ _ _ _=>rfl);rw [f5];simp only [f1,f2,f3,f4,Aa]
   cases bad with
   |true=>exact⟨ZZ,false,rfl,rfl,fun _=>rfl,by simp⟩
   |false=>
    obtain⟨a1,a2,a3,a4,n1,n2,n3,n4,rfl,rfl,rfl,rfl,rfl,i1,i2,i3,i4,i5,j1,j2,j3,j4,s1,s2,s3,s4⟩:=f6 rfl;simp only [Ad,Aa,Ct];have r:sx u 0=some (((L u)[0]'(by omega)).toNat:Int):=Fe u (i:=0) (by omega);have j:sub u (a4:Int) (FE u)=some (u.extract a4 (L u).length):=by rw [BG];exact EV u (by omega) (by omega)
    rw [r,j];simp only [Aa];have hk:=i9 ((L u)[0]'(by omega));have hw:IntKind.i64.wrap (((L u)[0]'(by omega)).toNat:Int)=((L u)[0]'(by omega)).toNat:=MW (by omega) (by omega);rw [hw];obtain⟨po,po1,po2,_⟩:=Tj (Page.mk (((L u)[0]'(by omega)).toNat:Int) n1 n2 n3 n4 (u.extract a4 (L u).length));rw [po2];simp only [Aa]
    cases po with
    |false=>
     have:EL (Page.mk (((L u)[0]'(by omega)).toNat:Int) n1 n2 n3 n4 (u.extract a4 (L u).length))=some (bs [],false):=by
      unfold EL;rw [po1];rfl
     rw [this];exact⟨ZZ,false,rfl,rfl,fun _=>rfl,by simp⟩
    |true=>
     have hT:L (u.extract a4 (L u).length)=(L u).drop a4:=by
      rw [H1];exact AY (by simp)
     have g:L u=[(L u)[0]'(by omega)]++Cm n1++Cm n2++Cm n3++Cm n4++L (u.extract a4 (L u).length):=by
      rw [hT,s1,s2,s3,s4];have h0:L u=[(L u)[0]'(by omega)]++(L u).drop 1:=by
       have:=Bo (l:=L u) (i:=0) (by omega);simpa using this
      have d1:=O5 (L u) (a:=1) (b:=a1) (by omega);have d2:=O5 (L u) (a:=a1) (b:=a2) (by omega);have d3:=O5 (L u) (a:=a2) (b:=a3) (by omega);have d4:=O5 (L u) (a:=a3) (b:=a4) (by omega);simp only [Ao];rw [<-d4,<-d3,<-d2,<-d1];exact h0
     rw [TW _ u ((L u)[0]'(by omega)) n1 n2 n3 n4 po1 rfl rfl rfl rfl rfl j1 j2 j3 j4 f g];obtain⟨v',hv',hs'⟩:=(Th u).2 f;rw [hv]at hv'
     injection hv' with hv'
     subst hv';rw [hs',Aa];have:seq (u++four v) t=true:=by rw [Hg,A5];exact q.symm
     simp only [Aq,Ad,Aa,this];exact⟨_,true,rfl,rfl,by simp,fun _=>po1⟩
end Go.TI
namespace Go.TI
open Go
def OG (x:Leaf):Nat:=x.Text.size
def MJ (x:Block):Nat:=zl OG x.Leaves
def NC (x:Flash):Nat:=zl MJ x.Blocks
theorem AB8 (f:Flash) (h:NC f<=1048576):Zv f/\∀b∈f.Blocks,∀x∈b.Leaves,(L x.Text).length<=1048576:=by
 have h1:=bI (z:=MJ) (l:=f.Blocks);unfold NC at h;refine⟨⟨by omega,fun b hb=>?_⟩,fun b hb x hx=>?_⟩
 ·have h2:=oP (z:=MJ) hb;have h3:=bI (z:=OG) (l:=b.Leaves);have e:MJ b=zl OG b.Leaves:=rfl;omega
 ·have h2:=oP (z:=MJ) hb;have h3:=oP (z:=OG) hx;have e:MJ b=zl OG b.Leaves:=rfl;have e2:OG x=x.Text.size:=rfl;rw [Tk];omega
end Go.TI
namespace Go.TI
open Go
def nl (l:List Block):Nat:=(l.map fun b=>b.Leaves.length).sum
theorem ADS (f:Flash):nl f.Blocks<=NC f:=by
 unfold nl NC zl;have:∀l:List Block,(l.map fun b=>b.Leaves.length).sum<=(l.map MJ).sum:=by
  intro l
  induction l with
  |nil=>simp
  |cons b l ih=>
   have:=bI (z:=OG) (l:=b.Leaves);have e:MJ b=zl OG b.Leaves:=rfl;simp only [B5,EU];omega
 have:=this f.Blocks;omega
def P3 (f:Flash) (y:Ap):Prop:=∃b x,gi f.Blocks y.Block=some b/\gi b.Leaves y.Leaf=some x/\(x.Is==1)=true/\EK x.Text=some (y.Page,true)
theorem TU (f:Flash) (hf:Zv f) {i k:Nat} {b:Block} {x:Leaf} (hb:f.Blocks[i]?=some b) (hx:b.Leaves[k]?=some x):NR f i k=some (bif x.Is==1 then(x.Text,true)else(bs [],false)):=by
 have h1:=(Ah.1 hb).1;have h2:=(Ah.1 hx).1;have h3:=hf.1;have h4:=hf.2 b (AH hb);unfold NR;rw [C0 (by rw [Cl];omega) (by rw [Cl];omega),WX,Cl,Ac (by omega:(0:Int)<=(i:Int)),Ac (by omega:(i:Int)<=(f.Blocks.length:Int)-1)];simp only [Aa,IS,Aq,Ad,AI,hb];rw [C0 (by rw [Cl];omega) (by rw [Cl];omega),WX,Cl,Ac (by omega:(0:Int)<=(k:Int)),Ac (by omega:(k:Int)<=(b.Leaves.length:Int)-1)];simp only [Aa,IS,Aq,Ad,hx]
 cases h:x.Is==1 with
 |true=>
  have:(x.Is !=1)=false:=by simp [bne,h]
  simp [this]
 |false=>
  have:(x.Is !=1)=true:=by simp [bne,h]
  simp [this]
theorem Rb (f:Flash) (hf:Zv f) (hT:∀b∈f.Blocks,∀x∈b.Leaves,(L x.Text).length<=1048576) (hn:nl f.Blocks<=1048576):
  ∃X,Az (fun s:List Ap×Int=>Ec f s.1 s.2) ([],0)=some X/\Az (fun s:Int×List Ap=>Gv f s.1 s.2) (0,[])=some X/\X.length<=nl f.Blocks/\∀y∈X,P3 f y:=by
 refine RG (body:=fun s:List Ap×Int=>Ec f s.1 s.2) (body':=fun s:Int×List Ap=>Gv f s.1 s.2) (fun s i=>(s,i)) (fun s i=>(i,s)) f.Blocks.length (fun i out=>out.length<=((f.Blocks.take i).map fun b=>b.Leaves.length).sum/\∀y∈out,P3 f y) (fun X=>X.length<=nl f.Blocks/\∀y∈X,P3 f y) ?_ ?_ (s:=[]) ⟨by simp,by simp⟩
 ·intro out i hi ⟨a,c⟩;have hb:f.Blocks[i]?=some f.Blocks[i]:=Ab hi;have hm:f.Blocks[i]∈f.Blocks:=AN _;have h:=Pa (fun b:Block=>b.Leaves.length) f.Blocks i hi;have j:=Mt (fun b:Block=>b.Leaves.length) f.Blocks (i+1);unfold nl at hn;have l:=hf.1;refine .inl ?_;simp only [Ec,Gv,AT,Ac hi,Af,AI,hb,Aa];obtain⟨u,q1,q2,q3⟩:=RG (body:=fun s:List Ap×Int=>E8 f (i:Int) s.1 s.2) (body':=fun s:Int×List Ap=>HJ (i:Int) f.Blocks[i] s.1 s.2) (fun s i=>(s,i)) (fun s i=>(i,s)) f.Blocks[i].Leaves.length (fun k u=>u.length<=out.length+k/\∀y∈u,P3 f y) (fun u=>u.length<=out.length+f.Blocks[i].Leaves.length/\∀y∈u,P3 f y)
   (fun u k hk hu=>by
    have hx:f.Blocks[i].Leaves[k]?=some f.Blocks[i].Leaves[k]:=Ab hk;have e:f.Blocks[i].Leaves[k]∈f.Blocks[i].Leaves:=AN _;have m:=hf.2 _ hm
    have g:∀y:Ap,ap 72 u [y]=some (u++ [y]):=fun y=>CI (by simp only [An];omega)
    refine .inl ?_;obtain⟨p,ok,r1,r2,r3,r4⟩:=IP f.Blocks[i].Leaves[k].Text (by have:=hT _ hm _ e;omega);simp only [E8,HJ,AT,Ac hk,Af,AI,hb,hx,Aa,TU f hf hb hx,r2,g];have n:=hu.1
    cases d:f.Blocks[i].Leaves[k].Is==1 with
    |false=>
     obtain⟨p',ok',t1,_⟩:=IP (bs []) (by rw [DJ];simp);simp only [Ad,Aa,t1];refine⟨u,by rw [ad1 (by omega)],by cases ok<;>(simp only [Af,Ad,Aa];rw [ad1 (by omega)]),by omega,hu.2⟩
    |true=>
     simp only [Af,Aa,r1]
     cases ok with
     |false=>exact⟨u,by simp only [Ad];rw [ad1 (by omega)],by simp only [Ad,Aa];rw [ad1 (by omega)],by omega,hu.2⟩
     |true=>
      refine⟨u++ [Ap.mk i k p],by simp only [Af];rw [ad1 (by omega)],by simp only [Af,Aa];rw [ad1 (by omega)],by simp only [Ag,An];omega,fun y hy=>?_⟩
      rcases Aj.1 hy with hy|hy
      ·exact hu.2 y hy
      ·rw [A6]at hy;subst hy
       exact⟨_,_,by simp only [AI];exact hb,by simp only [AI];exact hx,d,r1⟩)
   (fun u hu=>⟨u,by simp only [E8,AI,hb,Aa,AT,Ax,A4,Ad],by simp only [HJ,AT,Ax,A4,Ad],hu⟩) (s:=out) ⟨by omega,c⟩
  rw [q1,q2];simp only [Aa];rw [ad1 (by omega)];exact⟨u,rfl,rfl,by omega,q3.2⟩
 ·intro out ⟨a,c⟩;refine⟨out,by simp only [Ec,AT,Ax,A4,Ad],by simp only [Gv,AT,Ax,A4,Ad],?_,c⟩;rw [Ba]at a;exact a
theorem g9 {γ:Type} {l:List γ} {i j:Int} {x y:γ} (h:gi l j=some y):∃z,gi (si l i x) j=some z:=by
 obtain⟨h1,h2⟩:=Ex h;have:=(Ah.1 h2).1;unfold gi;rw [Ay h1];exact⟨_,Ab (by simp only [si,Iy];exact this)⟩
theorem oT (l:List Ap) (k:Int):Ji l k=(Be (NA BF) 0 k l).map (Sum.map (fun s=>(s.2,s.1)) id):=by
 unfold Ji Be gi2 tH
 cases hk:decide (k>0)with
 |false=>rfl
 |true=>
  simp only [Af]
  cases h1:gi l (sb k 1)with
  |none=>cases h2:gi l k<;>simp
  |some x=>
   cases h2:gi l k with
   |none=>simp
   |some y=>
    simp only [Aa];have e:(decide (x.Page.Seq>y.Page.Seq))=NA BF y x:=rfl;rw [e]
    cases NA BF y x with
    |false=>rfl
    |true=>
     simp only [Af,h1,h2,Aa];obtain⟨z,hz⟩:=g9 (i:=k) (x:=x) h1;rw [hz];rfl
theorem ABm {γ:Type} {l l':List γ} {i j:Int} (h:tH l i j=some l'):l'.length=l.length:=by
 unfold tH at h;obtain⟨x,_,h⟩:=Ar.1 h;obtain⟨y,_,h⟩:=Ar.1 h
 injection h with h
 subst h;simp [si]
theorem ABV {a:Int} {j:Int} {l r:List Ap} (h:Az (fun s:Int×List Ap=>Be (NA BF) a s.1 s.2) (j,l)=some r):r.length=l.length:=by
 refine vX (fun s:Int×List Ap=>s.2.length=l.length) (fun r=>r.length=l.length) ?_ ?_ (s:=(j,l)) rfl h
 ·rintro⟨j,m⟩ s' hm hb;simp only [Be]at hb;obtain⟨c,_,hb⟩:=Ar.1 hb
  cases c with
  |false=>cases hb
  |true=>
   simp only [Af]at hb;obtain⟨m',h1,hb⟩:=Ar.1 hb
   injection hb with hb
   injection hb with hb
   subst hb;exact(ABm h1).trans hm
 ·rintro⟨j,m⟩ b hm hb;simp only [Be]at hb;obtain⟨c,_,hb⟩:=Ar.1 hb
  cases c with
  |false=>
   simp only [Ad]at hb
   injection hb with hb
   injection hb with hb
   subst hb;exact hm
  |true=>
   simp only [Af]at hb;obtain⟨m',h1,hb⟩:=Ar.1 hb;cases hb
theorem X3 (f:Flash) (hf:Zv f) (hT:∀b∈f.Blocks,∀x∈b.Leaves,(L x.Text).length<=1048576) (hn:nl f.Blocks<=1048576):
  ∃r,FT f=some r/\HK f=some r/\r.length<=nl f.Blocks/\(∀y∈r,P3 f y)/\srt BF r:=by
 obtain⟨X,h1,h2,h3,h4⟩:=Rb f hf hT hn;obtain⟨r,h5,h6,h7⟩:=ZD BF X (by omega);obtain⟨r',h8,h9,h10⟩:=JV BF [] X [] (by simp only [Bj];omega);have hr:r'=r:=QG BF h9 h6 (fun k=>by rw [h7 k,<-h10 k]);subst hr;refine⟨r',?_,?_,?_,?_,h6⟩
 ·unfold FT;rw [h1,Aa];simp only [A8,Au,Bj,Kh]at h8;unfold Cr at h8;rw [show ad ((0:Nat):Int) 1=1 from rfl]at h8;have hc:Az (fun s:List Ap×Int=>Jj s.1 s.2) (X,1)=Az (fun s:Int×List Ap=>Bn (NA BF) ((0:Nat):Int) (X.length:Int) s.1 s.2) (1,X):=by
   refine mO (body:=fun s:Int×List Ap=>Bn (NA BF) ((0:Nat):Int) (X.length:Int) s.1 s.2) (body':=fun s:List Ap×Int=>Jj s.1 s.2) (fun s=>(s.2,s.1)) (fun s=>s.2.length=X.length) ?_ ?_ (1,X) rfl
   ·rintro⟨j,m⟩ hm;simp only at hm;simp only [Jj,Bn,Cl,hm]
    cases decide (j<(X.length:Int))with
    |false=>rfl
    |true=>
     simp only [Af];rw [rC (body:=fun s:Int×List Ap=>Be (NA BF) ((0:Nat):Int) s.1 s.2) (body':=fun s:List Ap×Int=>Ji s.1 s.2) (fun s=>(s.2,s.1)) (fun s=>oT s.2 s.1) (j,m)];cases Az (fun s:Int×List Ap=>Be (NA BF) ((0:Nat):Int) s.1 s.2) (j,m)<;>rfl
   ·rintro⟨j,m⟩ s' hm hb;simp only [Bn]at hb
    cases hc:decide (j<(X.length:Int))with
    |false=>rw [hc,Ad]at hb;cases hb
    |true=>
     rw [hc,Af]at hb;obtain⟨m',h1,hb⟩:=Ar.1 hb
     injection hb with hb
     injection hb with hb
     subst hb;exact(ABV h1).trans hm
  rw [hc];exact h8
 ·unfold HK;rw [h2,Aa,h5];rfl
 ·rw [<-h7.len];exact h3
 ·exact fun y hy=>h4 y ((h7.mem).1 hy)
end Go.TI
namespace Go.TI
open Go
section
variable {α β σ S:Type}
theorem RH {body:S->Option (S⊕List α)} (mkS:List α->Int->S) (g:Nat->α->α) (l0:List α)
  (h1:∀(i:Nat) (l:List α) x,l.length=l0.length->l[i]?=some x->l0[i]?=some x->body (mkS l (i:Nat))=some (.inl (mkS (l.set i (g i x)) ((i+1:Nat):Int))))
  (h2:∀l:List α,l.length=l0.length->body (mkS l (l0.length:Nat))=some (.inr l)):Az body (mkS l0 0)=some (l0.mapIdx g):=by
 obtain⟨b,h3,h4⟩:=Bp (body:=body) mkS l0.length (fun i l=>l.length=l0.length/\∀j,l[j]?=if j<i then(l0[j]?).map (g j)else l0[j]?) (fun b=>b=l0.mapIdx g)
  (fun l i hi hs=>by
   obtain⟨hl,hs⟩:=hs;have a:l0[i]?=some l0[i]:=Ab hi;have hx:l[i]?=some l0[i]:=by rw [hs,A0 (Ax _),a]
   refine .inl ⟨_,h1 i l _ hl hx a,by rw [Iy,hl],fun j=>?_⟩;rw [Cn];by_cases e:i=j
   ·subst e;rw [Ay rfl,Ay (by omega),Ay (by omega),a];rfl
   ·rw [A0 e,hs];by_cases h:j<i
    ·rw [Ay h,Ay (by omega)]
    ·rw [A0 h,A0 (by omega)])
  (fun l hs=>⟨l,h2 l hs.1,by
   apply CS;intro j;rw [hs.2,Jx];by_cases h:j<l0.length
   ·rw [Ay h]
   ·rw [A0 h,Dh (by omega)]
    rfl⟩) (s:=l0) ⟨rfl,fun j=>by rw [A0 (by omega)]⟩
 rw [h3,h4]
end
abbrev Ks:=List BR
def dk:BR:=BR.mk true []
def Cg (K:Ks) (i:Int):BR:=(gi K i).getD dk
def Mc (k:BR) (j:Nat):Int:=(k.Kids[j]?).getD 0
def Nr (K:Ks) (i:Nat) (leaf:Bool) (n:Int):Bool:=bif leaf then decide (0<=n)else(n== -1||(decide (0<=n/\n<=(i:Int)-1)&&(Cg K n).Leaf))
def Dk (K:Ks):Bool:=K.zipIdx.all fun z=>z.1.Kids.length==4&&z.1.Kids.all (Nr K z.2 z.1.Leaf)
def DT (K:Ks) (r:Int):Bool:=r== -1||(decide (0<=r/\r<(K.length:Int))&&!(Cg K r).Leaf)
def PA (K:Ks) (root:Int) (s:Nat):Int:=if root<0 then 0 else if Mc (Cg K root) (s/4)<0 then 0 else Mc (Cg K (Mc (Cg K root) (s/4))) (s %4)
def E9 (K:Ks) (root:Int):List Int:=(List.range 16).map (PA K root)
theorem Nq {K:Ks} {i:Nat} (h:i<K.length):Cg K (i:Int)=K[i]:=by
 unfold Cg;rw [AI,Ab h];rfl
theorem MA {K:Ks} {i:Int} (h0:0<=i) (h:i<(K.length:Int)):gi K i=some (Cg K i):=by
 unfold Cg;rw [P4 h0 h];rfl
theorem Dj (x a b:Int):BK x a b=some (decide (a<=x/\x<=b)):=by
 rw [WX];congr 1;rw [D0];simp
theorem Gz {K:Ks}:Dk K=true↔∀i:Nat,i<K.length->(Cg K (i:Int)).Kids.length=4/\∀n∈(Cg K (i:Int)).Kids,Nr K i (Cg K (i:Int)).Leaf n=true:=by
 unfold Dk;rw [HO];constructor
 ·intro h i hi;have:=h (K[i],i) (by rw [List.mem_zipIdx_iff_getElem?];exact Ab hi);rw [Ak,HO]at this;rw [Nq hi];exact⟨by simpa using this.1,this.2⟩
 ·intro h z hz;rw [List.mem_zipIdx_iff_getElem?]at hz;obtain⟨a,hz⟩:=Ah.1 hz;have:=h z.2 a;rw [Nq a,hz]at this;rw [Ak,HO];exact⟨by simpa using this.1,this.2⟩
theorem Lp (a:Arena) (ha:a.Knots.length<=1048576):Ga a=some (Dk a.Knots):=by
 unfold Ga;have h:=WS (body:=fun s:Int=>DH a s) a.Knots (fun i k=>k.Kids.length==4&&k.Kids.all (Nr a.Knots i k.Leaf)) (.inr false) (.inl ()) (by omega)
  (fun i k hk=>by
   have hi:=(Ah.1 hk).1;simp only [DH,AT,Ac hi,Af,AI,hk,Aa];by_cases h4:k.Kids.length=4
   ·have e1:(ln k.Kids !=4)=false:=by simp [ln,h4]
    have e2:(k.Kids.length==4)=true:=by simp [h4]
    simp only [e1,Ad,e2,CT];have q:=WS (body:=fun s:Int=>DG a (i:Int) k s) k.Kids (fun _ n=>Nr a.Knots i k.Leaf n) (.inr (.inr (.inr false))) (.inl ()) (by omega)
     (fun j n hn=>by
      have hj:=(Ah.1 hn).1;simp only [DG];rw [Ac (by omega:(j:Int)<4),Af,AI,hn];simp only [Aa,Nr]
      cases hl:k.Leaf with
      |true=>
       simp only [Af,Aq,Ad];by_cases h0:n<0
       ·rw [Ac h0,Ae (by omega:¬0<=n)];rfl
       ·rw [Ae h0,Ac (by omega:0<=n)];simp only [Ad,Aa,Af];rw [ad1 (by omega)]
      |false=>
       simp only [Ad,Bg,Af];by_cases h1:n= -1
       ·subst h1;simp only [bne_self_eq_false,Ad,Aa,BEq.rfl,Bool.true_or,Af];rw [ad1 (by omega)]
       ·have e3:(n != -1)=true:=by simp [h1]
        have e4:(n== -1)=false:=by simp [h1]
        rw [e3,e4];simp only [Af,Sv];rw [C0 (by omega) (by omega),Dj];simp only [Aa];by_cases h2:0<=n/\n<=(i:Int)-1
        ·rw [Ac h2];simp only [Aq,Ad];rw [MA h2.1 (by omega)];simp only [Aa,CT]
         cases(Cg a.Knots n).Leaf with
         |true=>simp only [Aq,Ad,Af];rw [ad1 (by omega)]
         |false=>rfl
        ·rw [Ae h2];rfl)
     (by simp only [DG];rw [Ae (by omega:¬((k.Kids.length:Nat):Int)<4),Ad])
    rw [q];have hz:(k.Kids.zipIdx.all fun z=>Nr a.Knots i k.Leaf z.1)=k.Kids.all (Nr a.Knots i k.Leaf):=by
     rw [show(fun z:Int×Nat=>Nr a.Knots i k.Leaf z.1)=(Nr a.Knots i k.Leaf)∘Prod.fst from rfl,<-List.all_map];congr 1;simp
    simp only [Aa];rw [hz]
    cases k.Kids.all (Nr a.Knots i k.Leaf)with
    |true=>simp only [Af,Ct];rw [ad1 (by omega)]
    |false=>rfl
   ·have e1:(ln k.Kids !=4)=true:=by simp [ln];omega
    have e2:(k.Kids.length==4)=false:=by simp [h4]
    simp only [e1,Af,e2,Bool.false_and,Ad])
  (by simp only [DH,AT,Ax,A4,Ad])
 rw [h];unfold Dk;simp only [Aa];cases(a.Knots.zipIdx.all fun z=>z.1.Kids.length==4&&z.1.Kids.all (Nr a.Knots z.2 z.1.Leaf))<;>rfl
theorem Lk (a:Arena) (ha:a.Knots.length<=1048576) (r:Int):GB a r=some (DT a.Knots r):=by
 unfold GB DT
 cases hr:(r== -1)with
 |true=>rfl
 |false=>
  simp only [Ad,Sv];rw [Cl,C0 (by omega) (by omega),Dj];simp only [Aa];by_cases h:0<=r/\r<(a.Knots.length:Int)
  ·rw [Ac h,Ac (by omega:0<=r/\r<=(a.Knots.length:Int)-1)];simp only [Af,CT];rw [MA h.1 h.2];rfl
  ·rw [Ae h,Ae (by omega:¬(0<=r/\r<=(a.Knots.length:Int)-1))];rfl
theorem C5 {K:Ks} {r:Int} (h:DT K r=true):r= -1\/(0<=r/\r<(K.length:Int)/\(Cg K r).Leaf=false):=by
 unfold DT at h;simp only [Db,CK,Ak,A5,CC]at h
 rcases h with h|h
 ·exact .inl h
 ·exact .inr ⟨h.1.1,h.1.2,h.2⟩
theorem HT {K:Ks} (hK:Dk K=true) {r:Int} (h0:0<=r) (h1:r<(K.length:Int)):(Cg K r).Kids.length=4/\∀j,j<4->(Cg K r).Kids[j]?=some (Mc (Cg K r) j)/\Nr K r.toNat (Cg K r).Leaf (Mc (Cg K r) j)=true:=by
 have:=Gz.1 hK r.toNat (by omega);rw [show((r.toNat:Nat):Int)=r by omega]at this;refine⟨this.1,fun j hj=>?_⟩;have a:j<(Cg K r).Kids.length:=by omega
 have e:(Cg K r).Kids[j]?=some (Mc (Cg K r) j):=by unfold Mc;rw [Ab a];rfl
 exact⟨e,this.2 _ (AH e)⟩
theorem GT {K:Ks} (hK:Dk K=true) {r:Int} (h0:0<=r) (h1:r<(K.length:Int)) (hl:(Cg K r).Leaf=false) {j:Nat} (hj:j<4):Mc (Cg K r) j= -1\/(0<=Mc (Cg K r) j/\Mc (Cg K r) j<r/\(Cg K (Mc (Cg K r) j)).Leaf=true):=by
 have:=((HT hK h0 h1).2 j hj).2;rw [hl]at this;simp only [Nr,Ad,Db,CK,Ak,A5]at this
 rcases this with h|⟨⟨h2,h3⟩,h4⟩
 ·exact .inl h
 ·exact .inr ⟨h2,by omega,h4⟩
theorem AAp {K:Ks} (hK:Dk K=true) {r:Int} (h0:0<=r) (h1:r<(K.length:Int)) (hl:(Cg K r).Leaf=true) {j:Nat} (hj:j<4):0<=Mc (Cg K r) j:=by
 have:=((HT hK h0 h1).2 j hj).2;rw [hl]at this;simpa [Nr]using this
theorem qu4 {s:Nat} (h:s<16):qu (s:Int) 4=((s/4:Nat):Int):=by
 unfold qu;rw [show Int.tdiv (s:Int) 4=((s/4:Nat):Int) by rw [Int.tdiv_eq_ediv_of_nonneg (by omega)];omega];exact MW (by omega) (by omega)
theorem ACl {s:Nat}:Int.tmod (s:Int) 4=((s %4:Nat):Int):=by
 rw [Jy (by omega)];omega
theorem Tw (a:Arena) (hK:Dk a.Knots=true) {r:Int} (hr:DT a.Knots r=true) {s:Nat} (hs:s<16):LP a r (s:Int)=some (PA a.Knots r s):=by
 unfold LP PA
 rcases C5 hr with rfl|⟨h0,h1,hl⟩
 ·rfl
 ·rw [Ae (by omega:¬r<0),A0 (by omega),Ad,MA h0 h1];simp only [Aa];rw [qu4 hs,AI,((HT hK h0 h1).2 (s/4) (by omega)).1];simp only [Aa]
  rcases GT hK h0 h1 hl (show s/4<4 by omega)with e|⟨e1,e2,e3⟩
  ·rw [e];rfl
  ·rw [Ae (by omega),A0 (by omega),Ad,MA e1 (by omega)];simp only [Aa];rw [ACl,AI,((HT hK e1 (by omega)).2 (s %4) (by omega)).1];rfl
theorem W1 (a:Arena) (ha:a.Knots.length<=1048576) (hK:Dk a.Knots=true) {r:Int} (hr:DT a.Knots r=true) {s:Nat} (hs:s<16):NU a r (s:Int)=some (PA a.Knots r s):=by
 unfold NU;rw [Lp a ha,Lk a ha,Dj,hK,hr];simp only [Aa,Aq,Ad];rw [Ac (by omega:0<=(s:Int)/\(s:Int)<=15)];simp only [Aq,Ad];rw [Tw a hK hr hs]
 try rfl
theorem NZ (a:Arena) (ha:a.Knots.length<=1048576) (hK:Dk a.Knots=true) {r:Int} (hr:DT a.Knots r=true):Ip a r=some (E9 a.Knots r):=by
 unfold Ip;obtain⟨b,h1,h2⟩:=Bp (body:=fun s:List Int×Int=>Gs a r s.1 s.2) (fun(o:List Int) i=>(o,i)) 16 (fun i o=>o=(List.range i).map (PA a.Knots r)) (fun b=>b=E9 a.Knots r)
  (fun o i hi ho=>by
   refine .inl ⟨_,?_,rfl⟩;simp only [Gs];rw [Ac (by omega:(i:Int)<16),Af,W1 a ha hK hr hi];simp only [Aa];rw [CI (by rw [ho];simp;omega)];simp only [Aa]
   rw [ad1 (by omega),ho,FD,Cv,List.map_singleton])
  (fun o ho=>⟨_,by simp only [Gs];rw [Ae (by omega:¬((16:Nat):Int)<16),Ad],ho⟩) (s:=[]) rfl
 have h1':Az (fun s:List Int×Int=>Gs a r s.1 s.2) ([],0)=some b:=h1;rw [h1',h2];rfl
end Go.TI
namespace Go.TI
open Go
theorem OA {α:Type} {by_:Nat} {l:List α} (h:l.length*by_<=140737488355328):ap by_ [] l=some l:=by
 rw [CI (by simpa using h),A8]
def ADb (K:Ks):Prop:=K.length<=1048576/\∀k∈K,k.Kids.length<=1048576
theorem Sk {K:Ks} (hK:Dk K=true) (h:K.length<=1048576):ADb K:=by
 refine⟨h,fun k hk=>?_⟩;obtain⟨i,hi,rfl⟩:=AD hk;have:=(Gz.1 hK i hi).1;rw [Nq hi]at this;omega
theorem R0 (a:Arena) (h:ADb a.Knots):L5 a=some a:=by
 unfold L5;have h1:=WQ (body:=fun s:Int×List BR=>Jc a s.1 s.2) a.Knots (fun k=>k)
  (fun i k out hk ho=>by
   have hi:=(Ah.1 hk).1;have hm:=h.2 k (AH hk);have:=h.1;simp only [Jc,AT,Ac hi,Af,AI,hk,Aa];rw [OA (by omega)];simp only [Aa];rw [CI (by simp;omega)];simp only [Aa]
   rw [ad1 (by omega)])
  (fun out=>by simp only [Jc,AT,Ax,A4,Ad])
 rw [h1];simp only [Aa,List.map_id']
theorem Lj (s:Store) (h:ADb s.Arena.Knots) (hv:s.Vols.length<=1048576):Er s=some s:=by
 unfold Er;rw [OA (by omega),R0 _ h];rfl
def OJ (K:Ks) (r:Int) (s:Nat) (n:Int):List Int:=(if r<0 then [0,0,0,0]else if Mc (Cg K r) (s/4)<0 then [0,0,0,0]else(Cg K (Mc (Cg K r) (s/4))).Kids).set (s %4) n
def Rp (K:Ks) (r:Int) (s:Nat):List Int:=(if r<0 then [-1,-1,-1,-1]else(Cg K r).Kids).set (s/4) (K.length:Int)
def JR (K:Ks) (r:Int) (s:Nat) (n:Int):Ks:=K++ [BR.mk true (OJ K r s n),BR.mk false (Rp K r s)]
theorem mk4:mk 8 (0:Int) 4=some [0,0,0,0]:=by rw [show(4:Int)=((4:Nat):Int)from rfl,WN (by omega) (by omega)];rfl
theorem AAy {k:BR} {j:Nat} (h:j<k.Kids.length):gi k.Kids (j:Int)=some (Mc k j):=by
 unfold Mc;rw [AI,Ab h];rfl
theorem pW (a:Arena) (ha:a.Knots.length<=1048000) (hK:Dk a.Knots=true) {r:Int} (hr:DT a.Knots r=true) {s:Nat} (hs:s<16) {n:Int} (hn:0<=n):
  UP a r (s:Int) n=some (Arena.mk (JR a.Knots r s n),(a.Knots.length:Int)+1):=by
 unfold UP;rw [R0 _ (Sk hK (by omega)),Lp a (by omega),Lk a (by omega),Dj,hK,hr];simp only [Aa,Aq,Ad];rw [Ac (by omega:0<=(s:Int)/\(s:Int)<=15),Ae (by omega:¬n<0)];simp only [Aq,Ad,Aa];rw [mk4];simp only [Aa];have fin:∀(lf tp:List Int),lf.length=4->tp.length=4->JR a.Knots r s n=a.Knots++ [BR.mk true (lf.set (s %4) n),BR.mk false (tp.set (s/4) (a.Knots.length:Int))]->
   ((gi lf (Int.tmod (s:Int) 4)).bind fun x4=>(gi tp (qu (s:Int) 4)).bind fun x5=>(ap 32 a.Knots [(BR.mk true (si lf (Int.tmod (s:Int) 4) n)),(BR.mk false (si tp (qu (s:Int) 4) (ln a.Knots)))]).bind fun q4=>some ((Arena.mk q4),(sb (ln q4) 1)))=some (Arena.mk (JR a.Knots r s n),(a.Knots.length:Int)+1):=by
  intro lf tp h1 h2 h3;rw [qu4 hs,ACl,AI,AI,Ab (by omega),Ab (by omega)];simp only [Aa];rw [CI (by simp;omega),Hc,Hc,Cl,<-h3];simp only [Aa];rw [Cl,h3,Ag,C0 (by simp;omega) (by simp;omega)];simp only [Av,Bj];congr 2;omega
 rcases C5 hr with rfl|⟨h0,h1,hl⟩
 ·rw [Ae (by omega:¬(-1:Int)>=0)];simp only [Ad,Aa];exact fin _ _ rfl rfl rfl
 ·rw [Ac (by omega:r>=0),Af,MA h0 h1];have h4:=(HT hK h0 h1).1;simp only [Aa];rw [OA (by omega)];simp only [Aa];rw [qu4 hs,AAy (by omega:s/4<(Cg a.Knots r).Kids.length)];simp only [Aa];rw [<-qu4 hs]
  rcases GT hK h0 h1 hl (show s/4<4 by omega)with e|⟨e1,e2,e3⟩
  ·rw [Ae (by omega:¬Mc (Cg a.Knots r) (s/4)>=0)];simp only [Ad,Aa];exact fin _ _ rfl h4 (by unfold JR OJ Rp;simp only [A0 (show¬r<0 by omega),Ay (show Mc (Cg a.Knots r) (s/4)<0 by omega)])
  ·rw [Ac (by omega:Mc (Cg a.Knots r) (s/4)>=0),Af,MA e1 (by omega)];have h5:=(HT hK e1 (by omega)).1;simp only [Aa];rw [OA (by omega)];simp only [Aa];exact fin _ _ h5 h4 (by unfold JR OJ Rp;simp only [A0 (show¬r<0 by omega),A0 (show¬Mc (Cg a.Knots r) (s/4)<0 by omega)])
def Oz (K:Ks) (r:Int) (i:Nat):Bool:=decide (0<=r)&&(decide (r=(i:Int))||(Cg K r).Kids.any fun n=>decide (n=(i:Int)))
theorem fR {α:Type} (n:Nat) (f:Nat->α) (g:Nat->α->α):((List.range n).map f).mapIdx g=(List.range n).map fun i=>g i (f i):=by
 apply CS;intro j;rw [Jx,Bb,Bb];by_cases h:j<n
 ·rw [OU h];rfl
 ·rw [Dh (by simpa using h)];rfl
theorem PX {α:Type} (n:Nat) (f:Nat->α) (i:Nat) (x:α) (g:Nat->α) (h:∀j,j<n->g j=if j=i then x else f j):((List.range n).map f).set i x=(List.range n).map g:=by
 apply CS;intro j;rw [Cn,Bb,Bb];by_cases hj:j<n
 ·rw [OU hj];simp only [B7,h j hj,By,Cf];by_cases e:i=j
  ·rw [Ay e,Ay (by omega),Ay e.symm]
  ·rw [A0 e,A0 (E6 e)]
 ·rw [Dh (by simpa using hj)];simp only [Option.map_none,By,Cf];split
  ·rw [A0 (by omega)]
  ·rfl
theorem JQ {α:Type} {n:Nat} {f:Nat->α} {i:Nat} (h:i<n):((List.range n).map f)[i]?=some (f i):=by
 rw [Bb,OU h];rfl
theorem jD {l:List Int} {m:Nat} {x:Int} (h:l[m]?=some x) (p:Int->Bool):(l.take (m+1)).any p=((l.take m).any p||p x):=by
 rw [En,h,List.any_append];simp
theorem jW (a:Arena) (ha:a.Knots.length<=1048576) (hK:Dk a.Knots=true) {r:Int} (hr:DT a.Knots r=true):Rz a r=some ((List.range a.Knots.length).map (Oz a.Knots r)):=by
 unfold Rz;rw [Cl,WN (by omega) (by omega)];simp only [Aa]
 rcases C5 hr with rfl|⟨h0,h1,hl⟩
 ·simp only [show decide ((-1:Int)<0)=true from rfl,Af];congr 1;rw [show(Oz a.Knots (-1))=fun _=>false from rfl,Ld,Cf]
 ·rw [Ae (by omega:¬r<0),Ad];obtain⟨m,rfl⟩:∃m:Nat,r=(m:Int):=⟨r.toNat,by omega⟩;rw [AI,List.getElem?_replicate,Ay (by omega)];simp only [Aa];rw [Hc];obtain⟨h4,hk⟩:=HT hK h0 h1;obtain⟨b,q1,q2⟩:=Bp (body:=fun s:List Bool×Int=>I5 a (m:Int) s.1 s.2) (fun(o:List Bool) i=>(o,i)) 4
   (fun i o=>o=(List.range a.Knots.length).map fun(j:Nat)=>decide ((m:Int)=(j:Int))||((Cg a.Knots (m:Int)).Kids.take i).any fun n=>decide (n=(j:Int)))
   (fun b=>b=(List.range a.Knots.length).map (Oz a.Knots (m:Int)))
   (fun o i hi ho=>by
    obtain⟨e,_⟩:=hk i hi;simp only [I5];rw [Ac (by omega:(i:Int)<4),Af,MA h0 h1];simp only [Aa];rw [AI,e];simp only [Aa]
    rcases GT hK h0 h1 hl hi with e1|⟨e1,e2,e3⟩
    ·rw [e1,Ae (by omega:¬(-1:Int)>=0),Ad,ad1 (by omega)];refine .inl ⟨o,rfl,?_⟩;rw [ho];apply CJ;intro j hj;rw [jD e,e1,Ae (by omega:¬(-1:Int)=(j:Int)),NB]
    ·obtain⟨c,hc⟩:∃c:Nat,Mc (Cg a.Knots (m:Int)) i=(c:Int):=⟨(Mc (Cg a.Knots (m:Int)) i).toNat,by omega⟩;rw [hc,Ac (by omega:(c:Int)>=0),Af]
     try simp only [Aa]
     rw [ho,AI,JQ (by omega)];simp only [Aa];rw [Hc,ad1 (by omega)];refine .inl ⟨_,rfl,?_⟩;apply PX;intro j hj;rw [jD e,hc];by_cases d:j=c
     ·subst d;simp
     ·rw [A0 d,Ae (by omega:¬(c:Int)=(j:Int)),NB])
   (fun o ho=>⟨_,by simp only [I5];rw [Ae (by omega:¬((4:Nat):Int)<4),Ad],by
    rw [ho];apply CJ;intro j hj;rw [AY (by omega)];unfold Oz
    rw [Ac h0,CT]⟩) (s:=(List.replicate a.Knots.length false).set m true) (by
    rw [<-Cf (n:=a.Knots.length),<-Ld,Cf];apply PX;intro j hj;simp only [HL,List.any_nil,NB];by_cases e:j=m
    ·subst e;simp
    ·rw [A0 e,Ae (by omega)])
  have q1':Az (fun s:List Bool×Int=>I5 a (m:Int) s.1 s.2) ((List.replicate a.Knots.length false).set m true,0)=some b:=q1;rw [q1',q2];rfl
end Go.TI
namespace Go.TI
open Go
def DC (K:Ks) (R:List Int) (i:Nat):Bool:=R.any fun r=>Oz K r i
def ZV (K:Ks) (R:List Int) (i:Nat):Nat:=((List.range i).filter (DC K R)).length
def PW (K:Ks) (R:List Int) (n:Int):Int:=if 0<=n then(ZV K R n.toNat:Int)else n
def oO (K:Ks) (R:List Int) (i:Nat):BR:=BR.mk (Cg K (i:Int)).Leaf (bif(Cg K (i:Int)).Leaf then(Cg K (i:Int)).Kids else(Cg K (i:Int)).Kids.map (PW K R))
def TY (K:Ks) (R:List Int):Ks:=((List.range K.length).filter (DC K R)).map (oO K R)
theorem Ok {α:Type} (l:List α) (f:α->α):l.mapIdx (fun _ x=>f x)=l.map f:=by
 apply CS;intro j;rw [Jx,Bb]
theorem PF {K:Ks} {R:List Int} {r:Int} (hr:r∈R) (h0:0<=r):DC K R r.toNat=true:=by
 unfold DC;rw [D5];exact⟨r,hr,by unfold Oz;rw [Ac h0,Ac (by omega:r=(r.toNat:Int))];rfl⟩
theorem i8 {K:Ks} {R:List Int} (hK:Dk K=true) (hR:∀r∈R,DT K r=true) {i:Nat} (hu:DC K R i=true) (hl:(Cg K (i:Int)).Leaf=false):(i:Int)∈R:=by
 unfold DC at hu;rw [D5]at hu;obtain⟨r,hr,h⟩:=hu;unfold Oz at h;simp only [Ak,Db,A5,D5]at h;obtain⟨h0,h⟩:=h
 rcases h with h|⟨n,hn,h⟩
 ·rw [<-h];exact hr
 ·rcases C5 (hR r hr)with e|⟨_,h1,a⟩
  ·omega
  ·obtain⟨h4,hk⟩:=HT hK h0 h1;obtain⟨j,hj,b⟩:=AD hn;have e:=(hk j (by omega)).1;rw [Ab hj,b]at e
   injection e with e
   rcases GT hK h0 h1 a (show j<4 by omega)with k1|⟨_,_,k3⟩
   ·omega
   ·rw [<-e,h,hl]at k3;cases k3
theorem Vu {K:Ks} {R:List Int} {r n:Int} (hr:r∈R) (h0:0<=r) (hn:n∈(Cg K r).Kids) (h1:0<=n):DC K R n.toNat=true:=by
 unfold DC;rw [D5];refine⟨r,hr,?_⟩;unfold Oz;rw [Ac h0,CT,Db,D5];exact .inr ⟨n,hn,by rw [A5];omega⟩
theorem ADK {K:Ks} {R:List Int} (i:Nat):ZV K R i<=i:=by
 have:=Cp (DC K R) (List.range i);rw [Cf]at this;exact this
theorem Yn (a:Arena) (ha:a.Knots.length<=1048576) (R:List Int) (hc:R.length<=1048576) (hR:∀r∈R,DT a.Knots r=true):Az (fun s:Bool×Int=>Ft a R s.1 s.2) (true,0)=some true:=by
 obtain⟨b,h1,h2⟩:=Bp (body:=fun s:Bool×Int=>Ft a R s.1 s.2) (fun(o:Bool) i=>(o,i)) R.length (fun _ o=>o=true) (fun b=>b=true)
  (fun o i hi ho=>by
   have hx:=Ab hi;simp only [Ft,AT,Ac hi,Af,Aa,ho,AI,hx];rw [Lk a ha,hR _ (AN hi)];simp only [Aa];rw [ad1 (by omega)]
   exact .inl ⟨true,rfl,rfl⟩)
  (fun o ho=>⟨o,by simp only [Ft,AT,Ax,A4,Ad,Aa],ho⟩) (s:=true) rfl
 rw [h2]at h1;exact h1
theorem cV (a:Arena) (ha:a.Knots.length<=1048576) (hK:Dk a.Knots=true) (R:List Int) (hc:R.length<=1048576) (hR:∀r∈R,DT a.Knots r=true):
  Az (fun s:List Bool×Int=>Fs a R s.1 s.2) (List.replicate a.Knots.length false,0)=some ((List.range a.Knots.length).map (DC a.Knots R)):=by
 obtain⟨b,h1,h2⟩:=Bp (body:=fun s:List Bool×Int=>Fs a R s.1 s.2) (fun(o:List Bool) i=>(o,i)) R.length (fun i o=>o=(List.range a.Knots.length).map fun(j:Nat)=>(R.take i).any fun r=>Oz a.Knots r j) (fun b=>b=(List.range a.Knots.length).map (DC a.Knots R))
  (fun o i hi ho=>by
   have hx:=Ab hi;simp only [Fs,AT,Ac hi,Af,Aa,AI,hx];rw [jW a ha hK (hR _ (AN hi))];simp only [Aa];have d:o.length=a.Knots.length:=by rw [ho];simp
   have q:=RH (body:=fun s:List Bool×Int=>G0 ((List.range a.Knots.length).map (Oz a.Knots R[i])) s.1 s.2) (fun l i=>(l,i)) (fun k x=>x||Oz a.Knots R[i] k) o
    (fun k l x hl c e=>by
     have hk:k<a.Knots.length:=by have:=(Ah.1 c).1;omega
     simp only [G0,AT];rw [Ac (by simpa using hk),Af,AI,c];simp only [Aa]
     cases x with
     |true=>simp only [Af,Bool.true_or];rw [Hc,ad1 (by omega)]
     |false=>
      simp only [Ad,Sv];rw [AI,JQ hk];simp only [Aa]
      rw [Hc,ad1 (by omega)])
    (fun l hl=>by simp only [G0,AT];rw [d,Ae (by simp),Ad])
   rw [q];simp only [Aa];rw [ad1 (by omega),ho,fR];refine .inl ⟨_,rfl,?_⟩;apply CJ;intro j hj;rw [En,hx,List.any_append]
   simp)
  (fun o ho=>⟨o,by simp only [Fs,AT,Ax,A4,Ad],by rw [ho,AY (by omega)];rfl⟩) (s:=List.replicate a.Knots.length false) (by
   simp only [HL,List.any_nil]
   rw [Ld,Cf])
 rw [<-h2];exact h1
def qQ (K:Ks) (R:List Int) (i:Nat):List Int:=(List.range K.length).map fun(j:Nat)=>if j<i/\DC K R j=true then(ZV K R j:Int)else 0
theorem Yo (a:Arena) (ha:a.Knots.length<=1048576) (hK:Dk a.Knots=true) (R:List Int) (hR:∀r∈R,DT a.Knots r=true):
  Az (fun s:List Int×Int×List BR=>Fq a ((List.range a.Knots.length).map (DC a.Knots R)) s.1 s.2.1 s.2.2) (List.replicate a.Knots.length 0,0,[])=some (qQ a.Knots R a.Knots.length,TY a.Knots R):=by
 obtain⟨b,h1,h2⟩:=Bp (body:=fun s:List Int×Int×List BR=>Fq a ((List.range a.Knots.length).map (DC a.Knots R)) s.1 s.2.1 s.2.2) (fun(o:List Int×List BR) i=>(o.1,i,o.2)) a.Knots.length
  (fun i o=>o=(qQ a.Knots R i,((List.range i).filter (DC a.Knots R)).map (oO a.Knots R))) (fun b=>b=(qQ a.Knots R a.Knots.length,TY a.Knots R))
  (fun o i hi ho=>by
   subst ho;simp only [Fq,AT,Ac hi,Af];rw [AI,JQ hi];simp only [Aa]
   cases hu:DC a.Knots R i with
   |false=>
    simp only [Bg,Af];rw [ad1 (by omega)];refine .inl ⟨(qQ a.Knots R i,((List.range i).filter (DC a.Knots R)).map (oO a.Knots R)),rfl,?_⟩;congr 1
    ·unfold qQ;apply CJ;intro j hj;by_cases e:j=i
     ·subst e;rw [A0 (by omega),A0 (by rw [hu];simp)]
     ·by_cases h:j<i/\DC a.Knots R j=true
      ·rw [Ay h,Ay ⟨by omega,h.2⟩]
      ·rw [A0 h,A0 (fun h3=>h ⟨by omega,h3.2⟩)]
    ·rw [FD,AZ,Co (by rw [hu];simp)];simp
   |true=>
    simp only [Aq,Ad];have h0:(0:Int)<=(i:Int):=by omega
    have d:(i:Int)<(a.Knots.length:Int):=by omega
    rw [MA h0 d];obtain⟨h4,hk⟩:=HT hK h0 d;simp only [Aa];rw [OA (by omega)];simp only [Aa];have inner:Az (fun s:Int×List Int=>Fp (qQ a.Knots R i) ((Cg a.Knots (i:Int)).Leaf,(Cg a.Knots (i:Int)).Kids) s.1 s.2) (0,(Cg a.Knots (i:Int)).Kids)=some (oO a.Knots R i).Kids:=by
     unfold oO
     cases hl:(Cg a.Knots (i:Int)).Leaf with
     |true=>rw [AB];rfl
     |false=>
      have q:=RH (body:=fun s:Int×List Int=>Fp (qQ a.Knots R i) (false,(Cg a.Knots (i:Int)).Kids) s.1 s.2) (fun l k=>(k,l)) (fun _ x=>PW a.Knots R x) (Cg a.Knots (i:Int)).Kids
       (fun k l x t f g=>by
        have m:k<4:=by have:=(Ah.1 g).1;omega
        have ex:x=Mc (Cg a.Knots (i:Int)) k:=by have:=(hk k m).1;rw [g]at this;injection this
        simp only [Fp];rw [Ac (by omega:(k:Int)<4)];simp only [Af,Aa,Bg];rw [AI,f];simp only [Aa]
        rcases GT hK h0 d hl m with e|⟨e1,e2,e3⟩
        ·rw [Ae (by omega:¬x>=0),Ad,ad1 (by omega)];have:PW a.Knots R x=x:=by unfold PW;rw [A0 (by omega)]
         rw [this,show l.set k x=l from by
          apply CS;intro j;rw [Cn];split
          ·rename_i e5;subst e5;rw [Ay (Ah.1 f).1,f]
          ·rfl]
        ·rw [Ac (by omega:x>=0),Af];obtain⟨c,hc⟩:∃c:Nat,x=(c:Int):=⟨x.toNat,by omega⟩;have u:x∈(Cg a.Knots (i:Int)).Kids:=AH g;have n:=Vu (i8 hK hR hu hl) h0 u (by omega);rw [hc]at n;rw [hc,AI];unfold qQ;rw [JQ (by omega)];simp only [Aa];rw [Ay ⟨by omega,n⟩,Hc,ad1 (by omega)];unfold PW;rw [Ay (by omega)]
         rfl)
       (fun l t=>by
        simp only [Fp];rw [h4,Ae (by omega:¬((4:Nat):Int)<4)]
        rfl)
      rw [Ok]at q;exact q
    rw [inner];simp only [Aa];have v:gi (qQ a.Knots R i) (i:Int)=some 0:=by
     unfold qQ;rw [AI,JQ hi,A0 (by omega)]
    rw [v];simp only [Aa];have w:=ADK (K:=a.Knots) (R:=R) i;have p:(((List.range i).filter (DC a.Knots R)).map (oO a.Knots R)).length=ZV a.Knots R i:=by rw [By];rfl
    rw [CI (by rw [p];simp;omega)];simp only [Aa];rw [ad1 (by omega),Cl,p,Hc];refine .inl ⟨(_,_),rfl,?_⟩;congr 1
    ·unfold qQ;apply PX;intro j hj;by_cases e:j=i
     ·subst e;rw [Ay ⟨by omega,hu⟩,Ay rfl]
     ·rw [A0 e];by_cases h:j<i/\DC a.Knots R j=true
      ·rw [Ay h,Ay ⟨by omega,h.2⟩]
      ·rw [A0 h,A0 (fun h3=>h ⟨by omega,h3.2⟩)]
    ·rw [FD,AZ,Ca hu,GL,Cv]
     rfl)
  (fun o ho=>⟨o,by simp only [Fq,AT,Ax,A4,Ad],ho⟩) (s:=(List.replicate a.Knots.length 0,[])) (by
   unfold qQ;simp only [Nat.not_lt_zero,false_and,Jw];rw [Ld,Cf]
   rfl)
 rw [<-h2];exact h1
theorem pP (a:Arena) (ha:a.Knots.length<=1048576) (R:List Int) (hc:R.length<=1048576) (hR:∀r∈R,DT a.Knots r=true):
  Az (fun s:List Int×Int=>Fo (qQ a.Knots R a.Knots.length,TY a.Knots R) s.1 s.2) (R,0)=some (R.map (PW a.Knots R)):=by
 have q:=RH (body:=fun s:List Int×Int=>Fo (qQ a.Knots R a.Knots.length,TY a.Knots R) s.1 s.2) (fun l k=>(l,k)) (fun _ x=>PW a.Knots R x) R
  (fun k l x f b d=>by
   have hk:=(Ah.1 d).1;have g:=(Ah.1 b).1;simp only [Fo,AT,Ac g,Af,AI,b,Aa]
   rcases C5 (hR x (AH d))with e|⟨e1,e2,e3⟩
   ·rw [Ae (by omega:¬x>=0),Ad,ad1 (by omega)];have:PW a.Knots R x=x:=by unfold PW;rw [A0 (by omega)]
    rw [this,show l.set k x=l from by
     apply CS;intro j;rw [Cn];split
     ·rename_i e5;subst e5
      first
       |rw [Ay g,b]
       |exact b.symm
     ·rfl]
   ·rw [Ac (by omega:x>=0),Af];obtain⟨c,h⟩:∃c:Nat,x=(c:Int):=⟨x.toNat,by omega⟩;have i:=PF (K:=a.Knots) (AH d) e1;rw [h]at i;rw [h,AI];unfold qQ;rw [JQ (by omega)];simp only [Aa];rw [Ay ⟨by omega,i⟩,Hc,ad1 (by omega)];unfold PW;rw [Ay (by omega)]
    rfl)
  (fun l f=>by simp only [Fo,Cl,f];rw [Ae (by omega),Ad])
 rw [Ok]at q;exact q
theorem Wb (a:Arena) (ha:a.Knots.length<=1048576) (hK:Dk a.Knots=true) (R:List Int) (hc:R.length<=1048576) (hR:∀r∈R,DT a.Knots r=true):
  Je a R=some (Arena.mk (TY a.Knots R),R.map (PW a.Knots R)):=by
 unfold Je;rw [OA (by omega),Lp a ha,hK];simp only [Aa];rw [Yn a ha R hc hR];simp only [Aa,Aq,Ad];rw [Cl,WN (by omega) (by omega)];simp only [Aa];rw [cV a ha hK R hc hR];simp only [Aa];rw [WN (by omega) (by omega)];simp only [Aa];rw [Yo a ha hK R hR];simp only [Aa];rw [pP a ha R hc hR];rfl
end Go.TI
namespace Go.TI
open Go
theorem Xj (p:Nat->Bool) {i:Nat} (hp:p i=true):∀{n:Nat},i<n->((List.range n).filter p)[((List.range i).filter p).length]?=some i
 |0,h=>by omega
 |n+1,h=>by
  rw [FD,AZ];by_cases e:i=n
  ·subst e;rw [AS (A7 _),PC,Ca hp];rfl
  ·have h2:=Xj p hp (show i<n by omega);have h3:=(Ah.1 h2).1;rw [AQ h3,h2]
theorem nI (p:Nat->Bool) {i:Nat} (hp:p i=true) {n:Nat} (h:i<n):((List.range i).filter p).length<((List.range n).filter p).length:=(Ah.1 (Xj p hp h)).1
theorem nH (p:Nat->Bool):∀{n j:Nat},j<((List.range n).filter p).length->∃i,i<n/\p i=true/\((List.range i).filter p).length=j
 |0,j,h=>by simp at h
 |n+1,j,h=>by
  rw [FD,AZ,Ag]at h;by_cases e:j<((List.range n).filter p).length
  ·obtain⟨i,h1,h2,h3⟩:=nH p e;exact⟨i,by omega,h2,h3⟩
  ·by_cases hp:p n=true
   ·rw [Ca hp]at h;simp at h;exact⟨n,by omega,hp,by omega⟩
   ·rw [Co hp]at h;simp at h;omega
section
variable {K:Ks} {R:List Int}
theorem bQ:(TY K R).length=ZV K R K.length:=by unfold TY ZV;rw [By]
theorem PH {i:Nat} (hu:DC K R i=true) (hi:i<K.length):Cg (TY K R) (ZV K R i:Nat)=oO K R i/\ZV K R i<(TY K R).length:=by
 have h:=nI (DC K R) hu hi;have h2:ZV K R i<(TY K R).length:=by rw [bQ];exact h
 refine⟨?_,h2⟩;unfold Cg;rw [AI];unfold TY;rw [Bb];have:=Xj (DC K R) hu hi;rw [show ZV K R i=((List.range i).filter (DC K R)).length from rfl,this];rfl
theorem yL {j:Nat} (hj:j<(TY K R).length):∃i,i<K.length/\DC K R i=true/\ZV K R i=j:=by
 rw [bQ]at hj;exact nH (DC K R) hj
theorem ADJ {i j:Nat} (hu:DC K R i=true) (h:i<j):ZV K R i<ZV K R j:=nI _ hu h
theorem V3 (i:Nat):(oO K R i).Leaf=(Cg K (i:Int)).Leaf:=rfl
theorem tJ (hK:Dk K=true) {i:Nat} (hi:i<K.length):(oO K R i).Kids.length=4:=by
 have:=(Gz.1 hK i hi).1;unfold oO
 cases(Cg K (i:Int)).Leaf with
 |true=>exact this
 |false=>simp only [Ad,By];exact this
theorem tK {i j:Nat} (hl:(Cg K (i:Int)).Leaf=false) (hj:j<(Cg K (i:Int)).Kids.length):Mc (oO K R i) j=PW K R (Mc (Cg K (i:Int)) j):=by
 unfold Mc oO;rw [hl];simp only [Ad];rw [Bb,Ab hj];rfl
theorem Qv {i:Nat} (hl:(Cg K (i:Int)).Leaf=true):(oO K R i).Kids=(Cg K (i:Int)).Kids:=by
 unfold oO;rw [hl];rfl
theorem PU {n:Int} (h:n<0):PW K R n=n:=by unfold PW;rw [A0 (by omega)]
theorem PV (n:Nat):PW K R (n:Int)=(ZV K R n:Int):=by unfold PW;rw [Ay (by omega)];rfl
theorem ACP (hK:Dk K=true) (hR:∀r∈R,DT K r=true):Dk (TY K R)=true:=by
 rw [Gz];intro j hj;obtain⟨i,hi,hu,rfl⟩:=yL hj;rw [(PH hu hi).1];refine⟨tJ hK hi,fun n hn=>?_⟩;have h0:(0:Int)<=(i:Int):=by omega
 have h1:(i:Int)<(K.length:Int):=by omega
 obtain⟨h4,hk⟩:=HT hK h0 h1;rw [V3]
 cases hl:(Cg K (i:Int)).Leaf with
 |true=>
  rw [Qv hl]at hn;have:=(Gz.1 hK i hi).2 n hn;rw [hl]at this;simpa [Nr]using this
 |false=>
  obtain⟨m,hm,b⟩:=AD hn;rw [tJ hK hi]at hm;have e:n=PW K R (Mc (Cg K (i:Int)) m):=by
   rw [<-tK hl (by omega),<-b];unfold Mc;rw [Ab];rfl
  rcases GT hK h0 h1 hl hm with k1|⟨k1,k2,k3⟩
  ·rw [k1,PU (by omega)]at e;subst e;rfl
  ·obtain⟨c,hc⟩:∃c:Nat,Mc (Cg K (i:Int)) m=(c:Int):=⟨_,(B3 k1).symm⟩;rw [hc]at e k2 k3;rw [PV]at e;have a:=Vu (i8 hK hR hu hl) h0 (AH (hk m hm).1) (by omega);rw [hc]at a;have d:c<K.length:=by omega
   have f:ZV K R c<ZV K R i:=ADJ (by simpa using a) (by omega);subst e;simp only [Nr,Ad,Db,CK,Ak,A5];refine .inr ⟨by omega,?_⟩;rw [(PH (by simpa using a) d).1,V3];exact k3
theorem zG (hR:∀r∈R,DT K r=true) {r:Int} (hr:r∈R):DT (TY K R) (PW K R r)=true:=by
 rcases C5 (hR r hr)with e|⟨h0,h1,hl⟩
 ·rw [e,PU (by omega)];rfl
 ·obtain⟨c,rfl⟩:∃c:Nat,r=(c:Int):=⟨_,(B3 h0).symm⟩;have a:=PF (K:=K) hr h0;rw [B6]at a;obtain⟨g1,g2⟩:=PH a (by omega);rw [PV];unfold DT;rw [Ac (by omega),g1,V3,hl];simp
theorem tR (hK:Dk K=true) (hR:∀r∈R,DT K r=true) {r:Int} (hr:r∈R):E9 (TY K R) (PW K R r)=E9 K r:=by
 unfold E9;apply CJ;intro s hs;rw [HN]at hs;unfold PA
 rcases C5 (hR r hr)with e|⟨h0,h1,hl⟩
 ·rw [e,PU (by omega),Ay (by omega),Ay (by omega)]
 ·obtain⟨c,rfl⟩:∃c:Nat,r=(c:Int):=⟨_,(B3 h0).symm⟩;have a:=PF (K:=K) hr h0;rw [B6]at a;obtain⟨g1,g2⟩:=PH a (by omega);obtain⟨h4,hk⟩:=HT hK h0 h1;rw [PV,g1,tK hl (by omega)];simp only [A0 (show¬((ZV K R c:Nat):Int)<0 by omega),A0 (show¬((c:Nat):Int)<0 by omega)]
  rcases GT hK h0 h1 hl (show s/4<4 by omega)with k1|⟨k1,k2,k3⟩
  ·rw [k1,PU (by omega)];rfl
  ·obtain⟨d,hd⟩:∃d:Nat,Mc (Cg K (c:Int)) (s/4)=(d:Int):=⟨_,(B3 k1).symm⟩;have b:=Vu hr h0 (AH (hk (s/4) (by omega)).1) k1;rw [hd]at b k2 k3;rw [hd,PV];simp only [A0 (show¬((ZV K R d:Nat):Int)<0 by omega),A0 (show¬((d:Nat):Int)<0 by omega)];rw [(PH (by simpa using b) (by omega)).1];unfold Mc;rw [Qv k3]
theorem ABn (hK:Dk K=true) (hR:∀r∈R,DT K r=true) {j:Nat} (hj:j<(TY K R).length):DC (TY K R) (R.map (PW K R)) j=true:=by
 obtain⟨i,hi,hu,rfl⟩:=yL hj;have hu':=hu;unfold DC at hu';rw [D5]at hu';obtain⟨r,hr,h⟩:=hu';unfold Oz at h;simp only [Ak,Db,A5,D5]at h;obtain⟨h0,h⟩:=h;unfold DC;rw [D5];refine⟨PW K R r,AL.2 ⟨r,hr,rfl⟩,?_⟩;obtain⟨c,rfl⟩:∃c:Nat,r=(c:Int):=⟨_,(B3 h0).symm⟩;rw [PV];unfold Oz;simp only [Ak,Db,A5,D5];refine⟨by omega,?_⟩
 rcases h with h|⟨n,hn,h⟩
 ·have:c=i:=by omega
  subst this;exact .inl rfl
 ·right
  rcases C5 (hR _ hr)with e|⟨_,h1,hl⟩
  ·omega
  ·have a:=PF (K:=K) hr h0;rw [B6]at a;rw [(PH a (by omega)).1];refine⟨(ZV K R i:Int),?_,rfl⟩;unfold oO;rw [hl];simp only [Ad,AL];exact⟨n,hn,by rw [h,PV]⟩
theorem Mb {X:Ks} {i:Int} (h0:0<=i) (h:i<(K.length:Int)):Cg (K++X) i=Cg K i:=by
 obtain⟨c,rfl⟩:∃c:Nat,i=(c:Int):=⟨_,(B3 h0).symm⟩;unfold Cg;rw [AI,AI,AQ (by omega)]
theorem zD {X:Ks} {r:Int} (h:DT K r=true):DT (K++X) r=true:=by
 rcases C5 h with e|⟨h0,h1,hl⟩
 ·rw [e];rfl
 ·unfold DT;rw [Mb h0 h1,hl,Ac (by rw [Ag];omega)];simp
theorem tM {X:Ks} (hK:Dk K=true) {r:Int} (h:DT K r=true):E9 (K++X) r=E9 K r:=by
 unfold E9;apply CJ;intro s hs;rw [HN]at hs;unfold PA
 rcases C5 h with e|⟨h0,h1,hl⟩
 ·rw [e];rfl
 ·rw [Mb h0 h1];simp only [A0 (show¬r<0 by omega)]
  rcases GT hK h0 h1 hl (show s/4<4 by omega)with k1|⟨k1,k2,k3⟩
  ·rw [k1];rfl
  ·rw [Mb k1 (by omega)]
theorem aJ (hK:Dk K=true) {r:Int} (hr:DT K r=true) {s:Nat} (hs:s<16) (n:Int):(OJ K r s n).length=4:=by
 unfold OJ;rw [Iy]
 rcases C5 hr with e|⟨h0,h1,hl⟩
 ·rw [Ay (by omega)];rfl
 ·rw [A0 (by omega)]
  rcases GT hK h0 h1 hl (show s/4<4 by omega)with k1|⟨k1,k2,k3⟩
  ·rw [Ay (by omega)];rfl
  ·rw [A0 (by omega)];exact(HT hK k1 (by omega)).1
theorem jB (hK:Dk K=true) {r:Int} (hr:DT K r=true) (s:Nat):(Rp K r s).length=4:=by
 unfold Rp;rw [Iy]
 rcases C5 hr with e|⟨h0,h1,hl⟩
 ·rw [Ay (by omega)];rfl
 ·rw [A0 (by omega)];exact(HT hK h0 h1).1
theorem SQ {r:Int} {s:Nat} {n:Int}:Cg (JR K r s n) (K.length:Int)=BR.mk true (OJ K r s n):=by
 unfold Cg JR;rw [AI,AS (A7 _),PC];rfl
theorem SP {r:Int} {s:Nat} {n:Int}:Cg (JR K r s n) ((K.length:Int)+1)=BR.mk false (Rp K r s):=by
 unfold Cg JR;rw [show(K.length:Int)+1=((K.length+1:Nat):Int)from rfl,AI,AS (by omega),show K.length+1-K.length=1 by omega];rfl
theorem ACW (hK:Dk K=true) {r:Int} (hr:DT K r=true) {s:Nat} (hs:s<16) {n:Int} (hn:0<=n):Dk (JR K r s n)=true:=by
 rw [Gz];intro j hj;have a:(JR K r s n).length=K.length+2:=by unfold JR;simp
 rw [a]at hj;by_cases h:j<K.length
 ·have hk:Cg (JR K r s n) (j:Int)=Cg K (j:Int):=Mb (by omega) (by omega);rw [hk];obtain⟨h4,h5⟩:=Gz.1 hK j h;refine⟨h4,fun m hm=>?_⟩;have:=h5 m hm
  cases hl:(Cg K (j:Int)).Leaf with
  |true=>rw [hl]at this;exact this
  |false=>
   rw [hl]at this;simp only [Nr,Ad,Db,CK,Ak,A5]at this⊢
   rcases this with e|⟨e1,e2⟩
   ·exact .inl e
   ·refine .inr ⟨e1,?_⟩;rw [show Cg (JR K r s n) m=Cg K m from Mb e1.1 (by omega)];exact e2
 ·by_cases e:j=K.length
  ·subst e;rw [SQ];refine⟨aJ hK hr hs n,fun m hm=>?_⟩;simp only [Nr,Af,A5];unfold OJ at hm
   rcases D8 hm with hm|hm
   ·rcases C5 hr with e|⟨h0,h1,hl⟩
    ·rw [Ay (by omega)]at hm;simp at hm;omega
    ·rw [A0 (by omega)]at hm
     rcases GT hK h0 h1 hl (show s/4<4 by omega)with k1|⟨k1,k2,k3⟩
     ·rw [Ay (by omega)]at hm;simp at hm;omega
     ·rw [A0 (by omega)]at hm;have hq:=Gz.1 hK (Mc (Cg K r) (s/4)).toNat (by omega);rw [B3 k1,k3]at hq;have:=hq.2 m hm;simpa [Nr]using this
   ·omega
  ·have:j=K.length+1:=by omega
   subst this;rw [show((K.length+1:Nat):Int)=(K.length:Int)+1 from rfl,SP];refine⟨jB hK hr s,fun m hm=>?_⟩;simp only [Nr,Ad,Db,CK,Ak,A5];unfold Rp at hm
   rcases D8 hm with hm|hm
   ·rcases C5 hr with e|⟨h0,h1,hl⟩
    ·rw [Ay (by omega)]at hm;simp at hm;omega
    ·rw [A0 (by omega)]at hm;obtain⟨q,hq,rfl⟩:=AD hm;obtain⟨h4,hk⟩:=HT hK h0 h1;have e5:=(hk q (by omega)).1;rw [Ab hq]at e5
     injection e5 with e5
     rw [e5]
     rcases GT hK h0 h1 hl (show q<4 by omega)with k1|⟨k1,k2,k3⟩
     ·exact .inl k1
     ·refine .inr ⟨by omega,?_⟩;rw [show Cg (JR K r s n) (Mc (Cg K r) q)=Cg K (Mc (Cg K r) q)from Mb k1 (by omega)];exact k3
   ·refine .inr ⟨by omega,?_⟩;rw [hm,SQ]
theorem vJ {r:Int} {s:Nat} {n:Int}:DT (JR K r s n) ((K.length:Int)+1)=true:=by
 unfold DT;rw [SP,Ac (by unfold JR;simp;omega)];simp
theorem tT (hK:Dk K=true) {r:Int} (hr:DT K r=true) {s:Nat} (hs:s<16) {n:Int}:E9 (JR K r s n) ((K.length:Int)+1)=(E9 K r).set s n:=by
 unfold E9;symm;apply PX;intro t ht;unfold PA;rw [SP];simp only [A0 (show¬((K.length:Int)+1)<0 by omega)];have a:=jB hK hr s;have b:=aJ hK hr hs n;by_cases hq:t/4=s/4
 ·have e1:Mc (BR.mk false (Rp K r s)) (t/4)=(K.length:Int):=by
   unfold Mc Rp;rw [hq,Cn,Ay rfl];unfold Rp at a;rw [Iy]at a;rw [Ay (by rw [a];omega)];rfl
  rw [e1,A0 (by omega),SQ];have e2:Mc (BR.mk true (OJ K r s n)) (t %4)=if t %4=s %4 then n else(if r<0 then 0 else if Mc (Cg K r) (s/4)<0 then 0 else Mc (Cg K (Mc (Cg K r) (s/4))) (t %4)):=by
   unfold Mc OJ;unfold OJ at b;rw [Iy]at b;rw [Cn];by_cases e:s %4=t %4
   ·rw [Ay e,Ay (by rw [b];omega),Ay e.symm];rfl
   ·rw [A0 e,A0 (E6 e)];have zero:([0,0,0,0]:List Int)[t %4]?.getD 0=0:=by
     have:t %4<4:=by omega
     generalize t %4=q at this
     match q,this with
     |0,_=>rfl
     |1,_=>rfl
     |2,_=>rfl
     |3,_=>rfl
    by_cases c1:r<0
    ·rw [Ay c1,Ay c1];exact zero
    ·rw [A0 c1,A0 c1];unfold Mc;by_cases c2:((Cg K r).Kids[s/4]?).getD 0<0
     ·rw [Ay c2,Ay c2];exact zero
     ·rw [A0 c2,A0 c2]
  rw [e2,hq];by_cases e:t=s
  ·rw [Ay e,Ay (by rw [e])]
  ·rw [A0 e,A0 (by omega)]
 ·rw [A0 (show¬t=s by intro e;rw [e]at hq;exact hq rfl)];have e1:Mc (BR.mk false (Rp K r s)) (t/4)=if r<0 then-1 else Mc (Cg K r) (t/4):=by
   unfold Mc Rp;rw [Cn,A0 (E6 hq)];by_cases c1:r<0
   ·rw [Ay c1,Ay c1];have:t/4<4:=by omega
    generalize t/4=q at this
    match q,this with
    |0,_=>rfl
    |1,_=>rfl
    |2,_=>rfl
    |3,_=>rfl
   ·rw [A0 c1,A0 c1]
  rw [e1]
  rcases C5 hr with e|⟨h0,h1,hl⟩
  ·rw [e];rfl
  ·simp only [A0 (show¬r<0 by omega)]
   rcases GT hK h0 h1 hl (show t/4<4 by omega)with k1|⟨k1,k2,k3⟩
   ·rw [k1];rfl
   ·rw [show Cg (JR K r s n) (Mc (Cg K r) (t/4))=Cg K (Mc (Cg K r) (t/4))from Mb k1 (by omega)]
end
end Go.TI
namespace Go.TI
open Go
def KF (n:Nat) (p:Nat->Bool):Nat:=((List.range n).filter p).length
theorem Kc (n:Nat) (p:Nat->Bool):KF (n+1) p=KF n p+(if p n=true then 1 else 0):=by
 unfold KF;rw [FD,AZ,Ag];by_cases h:p n=true
 ·rw [Ay h,Ca h];rfl
 ·rw [A0 h,Co h];rfl
theorem Vg (p q:Nat->Bool):∀n,KF n (fun j=>p j||q j)<=KF n p+KF n q
 |0=>by simp [KF]
 |n+1=>by
  have:=Vg p q n;rw [Kc,Kc,Kc];cases p n<;>cases q n<;>simp<;>omega
theorem Xo (x:Int):∀n,KF n (fun j=>decide (x=(j:Int)))<=1/\(x>=(n:Int)->KF n (fun j=>decide (x=(j:Int)))=0)
 |0=>by simp [KF]
 |n+1=>by
  obtain⟨h1,h2⟩:=Xo x n;rw [Kc];by_cases h:x=(n:Int)
  ·have:=h2 (by omega);rw [Ay (by simpa using h)];exact⟨by omega,fun h3=>by omega⟩
  ·rw [A0 (by simpa using h)];exact⟨by omega,fun h3=>by rw [h2 (by omega)]⟩
theorem AAK (l:List Int) (n:Nat):KF n (fun j=>l.any fun x=>decide (x=(j:Int)))<=l.length:=by
 induction l with
 |nil=>simp [KF]
 |cons x l ih=>
  simp only [List.any_cons,Av];have:=Vg (fun j=>decide (x=(j:Int))) (fun j=>l.any fun x=>decide (x=(j:Int))) n;have:=(Xo x n).1;omega
theorem AB7 {n:Nat} {p q:Nat->Bool} (h:∀j,j<n->p j=true->q j=true):KF n p<=KF n q:=by
 induction n with
 |zero=>simp [KF]
 |succ n ih=>
  have:=ih (fun j hj=>h j (by omega));rw [Kc,Kc];by_cases e:p n=true
  ·rw [Ay e,Ay (h n (by omega) e)];omega
  ·rw [A0 e];omega
theorem nM {n:Nat} {p:Nat->Bool} (h:∀j,j<n->p j=true):KF n p=n:=by
 induction n with
 |zero=>rfl
 |succ n ih=>rw [Kc,Ay (h n (by omega)),ih (fun j hj=>h j (by omega))]
section
variable {K:Ks} {R:List Int}
theorem ABY (hK:Dk K=true) {r:Int} (hr:DT K r=true) (n:Nat):KF n (Oz K r)<=5:=by
 have h1:=Vg (fun j=>decide (r=(j:Int))) (fun j=>(Cg K r).Kids.any fun n=>decide (n=(j:Int))) n;have h2:=(Xo r n).1;have h3:=AAK (Cg K r).Kids n
 have h4:KF n (Oz K r)<=KF n (fun j=>decide (r=(j:Int))||(Cg K r).Kids.any fun n=>decide (n=(j:Int))):=AB7 fun j _ h=>by
  unfold Oz at h;rw [Ak]at h;exact h.2
 rcases C5 hr with e|⟨h0,hl,_⟩
 ·have:KF n (Oz K r)=KF n (fun _=>false):=by rw [e];rfl
  rw [this];unfold KF;rw [Cu.2 (by simp)];simp
 ·have:=(HT hK h0 hl).1;omega
theorem Vv (hK:Dk K=true) (n:Nat):∀(R:List Int),(∀r∈R,DT K r=true)->KF n (DC K R)<=5*R.length
 |[],_=>by simp [KF,DC]
 |r::R,h=>by
  have h1:=Vv hK n R (fun x hx=>h x (by simp [hx]));have h2:=ABY hK (h r (by simp)) n;have h3:=Vg (Oz K r) (DC K R) n;have h4:KF n (DC K (r::R))=KF n (fun j=>Oz K r j||DC K R j):=rfl;rw [h4,Av];omega
theorem uY (hK:Dk K=true) (hR:∀r∈R,DT K r=true):(TY K R).length<=5*R.length:=by
 rw [bQ];exact Vv hK _ R hR
end
def Ce (s:Store):List Int:=s.Vols.map Vol.Root
structure Tg (s:Store):Prop where
 len:s.Vols.length<=3
 ar:Dk s.Arena.Knots=true
 nx:1<=s.Next/\s.Next<=1000000000
 ids:∀v∈s.Vols,1<=v.Id/\v.Id<=9
 asc:(s.Vols.map Vol.Id).Pairwise (·<·)
 root:∀r∈Ce s,DT s.Arena.Knots r=true
 lt:∀r∈Ce s,∀x∈E9 s.Arena.Knots r,x<s.Next
 few:s.Arena.Knots.length<=1000
structure DV (s:Store):Prop extends Tg s where
 used:∀i,i<s.Arena.Knots.length->DC s.Arena.Knots (Ce s) i=true
theorem DV.small {s:Store} (h:DV s):s.Arena.Knots.length<=15:=by
 have h1:=Vv h.ar s.Arena.Knots.length (Ce s) h.root;rw [nM h.used]at h1;have:(Ce s).length=s.Vols.length:=by unfold Ce;rw [By]
 have:=h.len;omega
def BO (s:Store):List (Int×List Int):=s.Vols.map fun v=>(v.Id,E9 s.Arena.Knots v.Root)
def KN (s:Store):Store:=Store.mk (s.Vols.map fun v=>Vol.mk v.Id (PW s.Arena.Knots (Ce s) v.Root)) (Arena.mk (TY s.Arena.Knots (Ce s))) s.Next
theorem Od (s:Store):Ce (KN s)=(Ce s).map (PW s.Arena.Knots (Ce s)):=by
 unfold Ce KN;simp only [Eo];rfl
theorem tI {s:Store} (h:Tg s):DV (KN s):=by
 have b:(Ce s).length=s.Vols.length:=by unfold Ce;rw [By]
 refine⟨⟨by unfold KN;simpa using h.len,ACP h.ar h.root,h.nx,?_,?_,?_,?_,?_⟩,?_⟩
 ·intro v hv;unfold KN at hv;simp only [AL]at hv;obtain⟨w,hw,rfl⟩:=hv;exact h.ids w hw
 ·have:((KN s).Vols.map Vol.Id)=s.Vols.map Vol.Id:=by unfold KN;simp only [Eo];rfl
  rw [this];exact h.asc
 ·intro r hr;rw [Od]at hr;obtain⟨q,hq,rfl⟩:=AL.1 hr;exact zG h.root hq
 ·intro r hr;rw [Od]at hr;obtain⟨q,hq,rfl⟩:=AL.1 hr;have:=tR h.ar h.root hq;intro x hx;have a:x∈E9 s.Arena.Knots q:=by rw [<-this];exact hx
  exact h.lt q hq x a
 ·have:=uY h.ar h.root;have:=h.len;show(TY s.Arena.Knots (Ce s)).length<=1000;omega
 ·intro i hi;rw [Od];exact ABn h.ar h.root hi
theorem ZC {s:Store} (h:Tg s):BO (KN s)=BO s:=by
 unfold BO;show(s.Vols.map fun v=>Vol.mk v.Id (PW s.Arena.Knots (Ce s) v.Root)).map _=_;rw [Eo];apply CJ;intro v hv;have:=tR h.ar h.root (show v.Root∈Ce s from AL.2 ⟨v,hv,rfl⟩);show(v.Id,E9 (TY s.Arena.Knots (Ce s)) (PW s.Arena.Knots (Ce s) v.Root))=_;rw [this]
theorem Qy (s:Store) (hv:s.Vols.length<=1048576):LO s=some (Ce s):=by
 unfold LO;obtain⟨b,h1,h2⟩:=Bp (body:=fun q:List Int×Int=>GA s q.1 q.2) (fun(o:List Int) i=>(o,i)) s.Vols.length (fun i o=>o=(s.Vols.take i).map Vol.Root) (fun b=>b=Ce s)
  (fun o i hi ho=>by
   have hx:=Ab hi;simp only [GA,AT,Ac hi,Af,AI,hx,Aa];rw [CI (by rw [ho];simp;omega)];simp only [Aa];rw [ad1 (by omega)]
   exact .inl ⟨_,rfl,by rw [ho,En,hx,Cv];rfl⟩)
  (fun o ho=>⟨o,by simp only [GA,AT,Ax,A4,Ad],by rw [ho,AY (A7 _)];rfl⟩) (s:=[]) rfl
 have h1':Az (fun q:List Int×Int=>GA s q.1 q.2) ([],0)=some b:=h1;rw [h1',h2];rfl
theorem Qx {s:Store} (h:Tg s):Gr s=some (KN s):=by
 have hl:=h.len;have hf:=h.few;have d:(Ce s).length=s.Vols.length:=by unfold Ce;rw [By]
 unfold Gr;rw [Qy s (by omega)];simp only [Aa];rw [Wb _ (by omega) h.ar _ (by omega) h.root];simp only [Aa];rw [OA (by omega)];simp only [Aa];have q:=RH (body:=fun q:Int×List Vol=>HX ((Ce s).map (PW s.Arena.Knots (Ce s)),TY s.Arena.Knots (Ce s)) q.1 q.2) (fun l i=>(i,l)) (fun _ v=>Vol.mk v.Id (PW s.Arena.Knots (Ce s) v.Root)) s.Vols
  (fun i l x a b c=>by
   have hi:=(Ah.1 b).1;simp only [HX,AT,Ac hi,Af];have:gi ((Ce s).map (PW s.Arena.Knots (Ce s))) (i:Int)=some (PW s.Arena.Knots (Ce s) x.Root):=by
    rw [AI,Bb];unfold Ce;rw [Bb,c];rfl
   rw [this,AI,b];simp only [Aa]
   rw [Hc,ad1 (by omega)])
  (fun l a=>by simp only [HX,Cl,a];rw [Ae (by omega),Ad])
 rw [Ok]at q;rw [q];rfl
theorem yK {s:Store} (h:DV s):KN s=s:=by
 have c:∀i,i<=s.Arena.Knots.length->ZV s.Arena.Knots (Ce s) i=i:=fun i hi=>nM (fun j hj=>h.used j (by omega))
 have a:∀n:Int,n<(s.Arena.Knots.length:Int)->PW s.Arena.Knots (Ce s) n=n:=fun n hn=>by
  unfold PW;split
  ·rw [c _ (by omega)];omega
  ·rfl
 have b:∀r∈Ce s,PW s.Arena.Knots (Ce s) r=r:=fun r hr=>by
  rcases C5 (h.root r hr)with e|⟨h0,h1,_⟩
  ·rw [e,PU (by omega)]
  ·exact a r h1
 have d:TY s.Arena.Knots (Ce s)=s.Arena.Knots:=by
  unfold TY;rw [FJ.2 (fun i hi=>h.used i (by simpa using hi))];apply CS;intro i;rw [Bb];by_cases hi:i<s.Arena.Knots.length
  ·rw [OU hi,Ab hi];simp only [B7];congr 1;have h0:(0:Int)<=(i:Int):=by omega
   have h1:(i:Int)<(s.Arena.Knots.length:Int):=by omega
   unfold oO
   cases hl:(Cg s.Arena.Knots (i:Int)).Leaf with
   |true=>
    simp only [Af];rw [<-hl,Nq hi]
   |false=>
    simp only [Ad];have:(Cg s.Arena.Knots (i:Int)).Kids.map (PW s.Arena.Knots (Ce s))=(Cg s.Arena.Knots (i:Int)).Kids:=by
     conv=>rhs;rw [<-Ri (Cg s.Arena.Knots (i:Int)).Kids]
     apply CJ;intro n hn;obtain⟨q,hq,rfl⟩:=AD hn;obtain⟨h4,hk⟩:=HT h.ar h0 h1;have e5:=(hk q (by omega)).1;rw [Ab hq]at e5
     injection e5 with e5
     rw [e5]
     rcases GT h.ar h0 h1 hl (show q<4 by omega)with k1|⟨k1,k2,k3⟩
     ·rw [k1,PU (by omega)];rfl
     ·exact a _ (by omega)
    rw [this,<-hl,Nq hi]
  ·rw [Dh (by simpa using hi),Dh (by omega)];rfl
 unfold KN;rw [d];have:(s.Vols.map fun v=>Vol.mk v.Id (PW s.Arena.Knots (Ce s) v.Root))=s.Vols:=by
  conv=>rhs;rw [<-Ri s.Vols]
  apply CJ;intro v hv;rw [b _ (AL.2 ⟨v,hv,rfl⟩)];rfl
 rw [this]
theorem Xr {K:Ks} {r:Int} {s:Nat} (hs:s<16):PA K r s∈E9 K r:=AL.2 ⟨s,by simpa using hs,rfl⟩
theorem Pw {l:List Int} (h:l.Pairwise (·<·)) {i j:Nat} {x y:Int} (a:i<j) (hx:l[i]?=some x) (hy:l[j]?=some y):x<y:=by
 obtain⟨h1,rfl⟩:=Ah.1 hx;obtain⟨h2,rfl⟩:=Ah.1 hy;exact D7.1 h i j h1 h2 a
theorem T4 {s:Store} (h:DV s):Ng s=some true:=by
 have hl:=h.len;have hf:=h.few;have d:(Ce s).length=s.Vols.length:=by unfold Ce;rw [By]
 unfold Ng;rw [Cl,Ae (by omega),Ad,Lp _ (by omega),h.ar,Dj,Ac h.nx];simp only [Aa,Aq,Ad];obtain⟨b,h1,h2⟩:=Bp (body:=fun q:Int=>HC s q) (fun(_:Unit) i=>i) s.Vols.length (fun _ _=>True) (fun b=>b= .inl ())
  (fun _ i hi _=>by
   have hx:=Ab hi;have hm:s.Vols[i]∈s.Vols:=AN hi;have hr:s.Vols[i].Root∈Ce s:=AL.2 ⟨_,hm,rfl⟩;simp only [HC,AT,Ac hi,Af,AI,hx,Aa];rw [Dj,Ac (h.ids _ hm),Lk _ (by omega),h.root _ hr];simp only [Aa,Aq,Ad];have a:(bif(decide ((i:Int)>0))then((gi s.Vols (sb (i:Int) 1)).bind fun x2=>bif(decide (x2.Id>=s.Vols[i].Id))then(some true)else(some false))else(some false):Option Bool)=some false:=by
    by_cases h0:i=0
    ·rw [Ae (by omega:¬(i:Int)>0),Ad]
    ·rw [Ac (by omega:(i:Int)>0),Af,C0 (by omega) (by omega),show(i:Int)-1=((i-1:Nat):Int) by omega,AI,Ab (by omega)];simp only [Aa];have:=Pw h.asc (show i-1<i by omega) (x:=s.Vols[i-1].Id) (y:=s.Vols[i].Id) (by rw [Bb,Ab (by omega)];rfl) (by rw [Bb,Ab (by omega)];rfl);rw [Ae (by omega),Ad]
   rw [a];simp only [Aa,Ad];obtain⟨c,q1,q2⟩:=Bp (body:=fun q:Int=>HB s s.Vols[i] q) (fun(_:Unit) i=>i) 16 (fun _ _=>True) (fun b=>b= .inl ())
    (fun _ k hk _=>by
     simp only [HB];rw [Ac (by omega:(k:Int)<16),Af,Tw _ h.ar (h.root _ hr) hk];simp only [Aa];have:=h.lt _ hr _ (Xr hk);rw [Ae (by omega),Ad,ad1 (by omega)]
     exact .inl ⟨(),rfl,trivial⟩)
    (fun _ _=>⟨_,by simp only [HB];rw [Ae (by omega:¬((16:Nat):Int)<16),Ad],rfl⟩) (s:=()) trivial
   have q1':Az (fun q:Int=>HB s s.Vols[i] q) 0=some c:=q1;rw [q1',q2];simp only [Aa,Ct];rw [ad1 (by omega)]
   exact .inl ⟨(),rfl,trivial⟩)
  (fun _ _=>⟨_,by simp only [HC,AT,Ax,A4,Ad],rfl⟩) (s:=()) trivial
 have h1':Az (fun q:Int=>HC s q) 0=some b:=h1;rw [h1',h2];simp only [Aa,Ct];rw [Qy s (by omega)];simp only [Aa];rw [Wb _ (by omega) h.ar _ (by omega) h.root];simp only [Aa];have:TY s.Arena.Knots (Ce s)=s.Arena.Knots:=by
  have:=yK h;unfold KN at this;have:=BI (fun z=>z.Arena.Knots) this;exact this
 rw [this];simp
end Go.TI
namespace Go.TI
open Go
abbrev Vs:=List (Int×List Int)
def Jt (l:Vs) (id:Int):Option (List Int):=(l.find? fun p=>p.1==id).map Prod.snd
def rD (l:Vs) (id:Int) (row:List Int):Vs:=(l.filter fun p=>decide (p.1<id))++ [(id,row)]++l.filter fun p=>decide (p.1>id)
def AEz (l:Vs) (id:Int):Vs:=l.filter fun p=>p.1 !=id
def o8 (l:Vs) (id:Int) (s:Nat) (n:Int):Vs:=l.map fun p=>if p.1=id then(p.1,p.2.set s n)else p
def GN (r:CD):Bool:=decide (0<=r.Arg/\r.Arg<=1000000000)&&(bif r.Kind==1 then r.Vol==0&&r.Chunk==0 else decide (2<=r.Kind/\r.Kind<=5)&&decide (1<=r.Vol/\r.Vol<=9)&&(r.Kind==4||r.Chunk==0)&&
 (bif r.Kind==2 then decide (r.Arg<=9)else bif r.Kind==3 then r.Arg==0 else bif r.Kind==4 then decide (r.Arg<16)&&decide (1<=r.Chunk/\r.Chunk<=1000000000)else decide (r.Arg<16)))
def OW:List Int:=List.replicate 16 0
def Dv (l:Vs) (nx:Int) (r:CD):Option (Vs×Int):=
 if GN r=false then none
 else if r.Kind=1 then some ([],if r.Arg=0 then 1 else r.Arg)
 else if r.Kind=2 then
  if(0<r.Arg/\Jt l r.Arg=none)\/Jt l r.Vol≠none\/l.length=3 then none
  else some (rD l r.Vol (if 0<r.Arg then(Jt l r.Arg).getD OW else OW),nx)
 else if Jt l r.Vol=none\/r.Chunk=1000000000 then none
 else if r.Kind=3 then some (AEz l r.Vol,nx)
 else some (o8 l r.Vol r.Arg.toNat r.Chunk,max nx (r.Chunk+1))
theorem PP (r:CD):PQ r=some (GN r):=by
 unfold PQ GN;simp only [Dj,Aa]
 cases decide (0<=r.Arg/\r.Arg<=1000000000)with
 |false=>rfl
 |true=>
  simp only [Aq,Ad,CT]
  cases r.Kind==1 with
  |true=>
   simp only [Af];cases r.Vol==0<;>rfl
  |false=>
   simp only [Ad]
   cases decide (2<=r.Kind/\r.Kind<=5)with
   |false=>rfl
   |true=>
    cases decide (1<=r.Vol/\r.Vol<=9)with
    |false=>rfl
    |true=>
     have e1:(r.Kind !=4)=!(r.Kind==4):=rfl;have e2:(r.Chunk !=0)=!(r.Chunk==0):=rfl;rw [e1,e2];cases r.Kind==4<;>cases r.Chunk==0<;>cases r.Kind==2<;>cases r.Kind==3<;>cases decide (r.Arg<16)<;>rfl
theorem Hn (s:Store) (hv:s.Vols.length<=1048576) (id:Int):(Es s id=some (-1)/\∀v∈s.Vols,v.Id≠id)\/∃k:Nat,∃v,Es s id=some (k:Int)/\s.Vols[k]?=some v/\v.Id=id/\∀j w,j<k->s.Vols[j]?=some w->w.Id≠id:=by
 unfold Es;obtain⟨b,h1,h2⟩:=Bp (body:=fun q:Int=>FH s id q) (fun(_:Unit) i=>i) s.Vols.length (fun i _=>∀j w,j<i->s.Vols[j]?=some w->w.Id≠id)
  (fun b=>(b= .inl ()/\∀v∈s.Vols,v.Id≠id)\/∃k:Nat,∃v,b= .inr (k:Int)/\s.Vols[k]?=some v/\v.Id=id/\∀j w,j<k->s.Vols[j]?=some w->w.Id≠id)
  (fun _ i hi hs=>by
   have hx:=Ab hi;simp only [FH,AT,Ac hi,Af,AI,hx,Aa]
   cases e:(s.Vols[i].Id==id)with
   |true=>exact .inr ⟨_,rfl,.inr ⟨i,_,rfl,hx,by simpa using e,hs⟩⟩
   |false=>
    simp only [Ad];rw [ad1 (by omega)];refine .inl ⟨(),rfl,fun j w hj hw=>?_⟩;by_cases e2:j=i
    ·subst e2;rw [hx]at hw
     injection hw with hw
     rw [<-hw];simpa using e
    ·exact hs j w (by omega) hw)
  (fun _ hs=>⟨_,by simp only [FH,AT,Ax,A4,Ad],.inl ⟨rfl,fun v hv=>by
   obtain⟨j,hj,rfl⟩:=AD hv
   exact hs j _ hj (Ab hj)⟩⟩) (s:=()) (fun j w hj=>by omega)
 have h1':Az (fun q:Int=>FH s id q) 0=some b:=h1;rw [h1']
 rcases h2 with⟨rfl,h2⟩|⟨k,v,rfl,h2⟩
 ·exact .inl ⟨rfl,h2⟩
 ·exact .inr ⟨k,v,rfl,h2⟩
theorem JX {s:Store} {id:Int}:(∀v∈s.Vols,v.Id≠id)↔Jt (BO s) id=none:=by
 unfold Jt BO;rw [Option.map_eq_none_iff,EH];constructor
 ·intro h p hp;obtain⟨v,hv,rfl⟩:=AL.1 hp;simpa using h v hv
 ·intro h v hv;have:=h _ (AL.2 ⟨v,hv,rfl⟩);simpa using this
theorem AB9 {s:Store} (h:(s.Vols.map Vol.Id).Pairwise (·<·)) {v w:Vol} (hv:v∈s.Vols) (hw:w∈s.Vols) (e:v.Id=w.Id):v=w:=by
 obtain⟨i,hi,rfl⟩:=AD hv;obtain⟨j,hj,rfl⟩:=AD hw;have gi:(s.Vols.map Vol.Id)[i]?=some s.Vols[i].Id:=by rw [Bb,Ab hi];rfl
 have gj:(s.Vols.map Vol.Id)[j]?=some s.Vols[j].Id:=by rw [Bb,Ab hj];rfl
 rcases Mo i j with h1|h1|h1
 ·have:=Pw h h1 gi gj;omega
 ·subst h1;rfl
 ·have:=Pw h h1 gj gi;omega
theorem Nx {s:Store} (h:(s.Vols.map Vol.Id).Pairwise (·<·)) {v:Vol} (hv:v∈s.Vols):Jt (BO s) v.Id=some (E9 s.Arena.Knots v.Root):=by
 unfold Jt;have hm:(v.Id,E9 s.Arena.Knots v.Root)∈BO s:=AL.2 ⟨v,hv,rfl⟩
 cases hf:(BO s).find? fun p=>p.1==v.Id with
 |none=>
  rw [EH]at hf;have:=hf _ hm;simp at this
 |some p=>
  have h1:=List.find?_some hf;have h2:=List.mem_of_find?_eq_some hf;obtain⟨w,hw,rfl⟩:=AL.1 h2;have:w=v:=AB9 h hw hv (by simpa using h1);rw [this];rfl
theorem Mh (s:Store):(BO s).length=s.Vols.length:=by unfold BO;rw [By]
theorem lT (K:Ks):E9 K (-1)=OW:=by
 unfold E9 OW;rw [<-Cf (n:=16),<-Ld,Cf];apply CJ;intro s hs;rfl
theorem sH (s:Store) (p:Int->Bool) (t:Store) (hk:t.Arena=s.Arena) (hv:t.Vols=s.Vols.filter fun v=>p v.Id):BO t=(BO s).filter fun q=>p q.1:=by
 unfold BO;rw [hk,hv,List.filter_map];rfl
theorem aK {body:List Vol×Int->Option ((List Vol×Int)⊕List Vol)} (l:List Vol) (p:Vol->Bool) (o:List Vol) (hM:l.length+o.length<=1048576)
  (h1:∀(i:Nat) v (out:List Vol),l[i]?=some v->out.length<=1048576->body (out,(i:Int))=some (.inl (bif p v then out++ [v]else out,((i+1:Nat):Int)))) (h2:∀out,body (out,(l.length:Int))=some (.inr out)):
  Az body (o,0)=some (o++l.filter p):=by
 obtain⟨b,h3,h4⟩:=Bp (body:=body) (fun(q:List Vol) i=>(q,i)) l.length (fun i q=>q=o++(l.take i).filter p) (fun b=>b=o++l.filter p)
  (fun q i hi hq=>by
   have hx:=Ab hi;refine .inl ⟨_,h1 i _ q hx ?_,?_⟩
   ·rw [hq,Ag];have:=Cp p (l.take i);rw [AC]at this;omega
   ·rw [hq,En,hx,AZ]
    cases e:p l[i]with
    |true=>simp [e]
    |false=>simp [e])
  (fun q hq=>⟨q,h2 q,by rw [hq,AY (A7 _)]⟩) (s:=o) (by simp)
 rw [h3,h4]
theorem AAv {K:Ks} {R R':List Int} (h:∀r∈R,r∈R') {i:Nat} (hu:DC K R i=true):DC K R' i=true:=by
 unfold DC at hu⊢;rw [D5]at hu⊢;obtain⟨r,hr,h2⟩:=hu;exact⟨r,h r hr,h2⟩
theorem o5 {l:List Vol} (h:(l.map Vol.Id).Pairwise (·<·)) (v:Vol):(((l.filter fun w=>decide (w.Id<v.Id))++ [v]++l.filter fun w=>decide (w.Id>v.Id)).map Vol.Id).Pairwise (·<·):=by
 rw [Mq]at h;rw [Mq,Ao,Bm];refine⟨h.filter _,?_,?_⟩
 ·rw [Cd,CF];exact⟨fun w hw=>by simpa using(AR.1 hw).2,h.filter _⟩
 ·intro a ha b hb;have h1:a.Id<v.Id:=by simpa using(AR.1 ha).2
  rw [Cd,B8]at hb
  rcases hb with rfl|hb
  ·exact h1
  ·have:b.Id>v.Id:=by simpa using(AR.1 hb).2
   omega
theorem u6 (l:List Vol) (id:Int):(l.filter fun w=>decide (w.Id<id)).length+(l.filter fun w=>decide (w.Id>id)).length<=l.length:=by
 induction l with
 |nil=>simp
 |cons v l ih=>
  simp only [List.filter_cons,Av];by_cases h1:v.Id<id
  ·rw [Ay (by simpa using h1),A0 (by simp;omega),Av];omega
  ·rw [A0 (by simpa using h1)];split
   ·rw [Av];omega
   ·omega
def On (s:Store) (r:CD) (o:Option (Store×Bool)):Prop:=match Dv (BO s) s.Next r with
 |none=>o=some (s,false)
 |some (l,nx)=>∃t,o=some (t,true)/\DV t/\BO t=l/\t.Next=nx
theorem wO {s:Store} (h:DV s) {r:CD} (hr:GN r=true) (hk:r.Kind=2):On s r (LN s r):=by
 have hl:=h.len;have c:=Sk h.ar (by have:=h.few;omega);have a:=Lj s c (by omega);have hb:GN r=true:=hr;unfold GN at hr;rw [hk]at hr;simp at hr;unfold On Dv;rw [hb,hk];simp only [Il,Jw,Cb,show¬((2:Int)=1) by omega];unfold LN;have root:(Jt (BO s) r.Arg=none/\0<r.Arg/\(bif(decide (r.Arg>0))then((Es s r.Arg).bind fun v1=>bif(decide (v1<0))then((Er s).bind fun v2=>some (.inr (v2,false)))else((gi s.Vols v1).bind fun x1=>some (.inl x1.Root)))else(some (.inl (-1))):Option ((Int)⊕((Store×Bool))))=some (.inr (s,false)))\/
   (¬(0<r.Arg/\Jt (BO s) r.Arg=none)/\∃q,DT s.Arena.Knots q=true/\(q= -1\/q∈Ce s)/\E9 s.Arena.Knots q=(if 0<r.Arg then(Jt (BO s) r.Arg).getD OW else OW)/\(bif(decide (r.Arg>0))then((Es s r.Arg).bind fun v1=>bif(decide (v1<0))then((Er s).bind fun v2=>some (.inr (v2,false)))else((gi s.Vols v1).bind fun x1=>some (.inl x1.Root)))else(some (.inl (-1))):Option ((Int)⊕((Store×Bool))))=some (.inl q)):=by
  by_cases h0:0<r.Arg
  ·rw [Ac (by omega:r.Arg>0)];simp only [Af]
   rcases Hn s (by omega) r.Arg with⟨h1,h2⟩|⟨k,v,h1,h2,h3,_⟩
   ·left;rw [h1,a];exact⟨JX.1 h2,h0,rfl⟩
   ·right;rw [h1];have hm:=AH h2;have hg:=Nx h.asc hm;rw [h3]at hg;refine⟨fun hh=>(by rw [hg]at hh;cases hh.2),v.Root,h.root _ (AL.2 ⟨v,hm,rfl⟩),.inr (AL.2 ⟨v,hm,rfl⟩),?_,?_⟩
    ·rw [Ay h0,hg];rfl
    ·simp only [Aa];rw [Ae (by omega),Ad,AI,h2];rfl
  ·right;rw [Ae (by omega:¬r.Arg>0),A0 h0];exact⟨fun hh=>h0 hh.1,-1,rfl,.inl rfl,lT _,rfl⟩
 rcases root with⟨g1,g2,g3⟩|⟨g1,q,g2,g3,g4,g5⟩
 ·rw [g3,Ay (.inl ⟨g2,g1⟩)];rfl
 ·rw [g5];simp only [Aa,Ct]
  rcases Hn s (by omega) r.Vol with⟨h1,h2⟩|⟨k,v,h1,h2,h3,_⟩
  ·rw [h1];simp only [Aa];rw [Ae (by omega),Ad,Cl];have g:Jt (BO s) r.Vol=none:=JX.1 h2;by_cases h3:s.Vols.length=3
   ·rw [h3,Ay (.inr (.inr (by rw [Mh,h3])))];simp only [Aa];rw [a];rfl
   ·have e3:((s.Vols.length:Int)==3)=false:=by simp;omega
    rw [e3,A0 (by
     rintro(hh|hh|hh)
     ·exact g1 hh
     ·exact hh g
     ·rw [Mh]at hh;exact h3 hh)]
    simp only [Aa,Ad];rw [a];simp only [Aa];have k1:=aK (body:=fun q:List Vol×Int=>Kz s r q.1 q.2) s.Vols (fun v=>decide (v.Id<r.Vol)) [] (by simp;omega)
     (fun i v out hv ho=>by
      have hi:=(Ah.1 hv).1;simp only [Kz,AT,Ac hi,Af,AI,hv,Aa];rw [ad1 (by omega)]
      cases decide (v.Id<r.Vol)with
      |true=>simp only [Af];rw [CI (by simp;omega)];rfl
      |false=>rfl)
     (fun out=>by simp only [Kz,AT,Ax,A4,Ad])
    rw [A8]at k1;rw [k1];simp only [Aa];have j:=u6 s.Vols r.Vol;rw [CI (by simp;omega)];simp only [Aa];have k2:=aK (body:=fun q:List Vol×Int=>Ky s r q.1 q.2) s.Vols (fun v=>decide (v.Id>r.Vol)) ((s.Vols.filter fun v=>decide (v.Id<r.Vol))++ [Vol.mk r.Vol q]) (by simp;omega)
     (fun i v out hv ho=>by
      have hi:=(Ah.1 hv).1;simp only [Ky,AT,Ac hi,Af,AI,hv,Aa];rw [ad1 (by omega)]
      cases decide (v.Id>r.Vol)with
      |true=>simp only [Af];rw [CI (by simp;omega)];rfl
      |false=>rfl)
     (fun out=>by simp only [Ky,AT,Ax,A4,Ad])
    rw [k2];simp only [Aa];have d:((s.Vols.filter fun v=>decide (v.Id<r.Vol))++ [Vol.mk r.Vol q]++s.Vols.filter fun v=>decide (v.Id>r.Vol)).length<=3:=by simp only [Ag,Av,Bj];omega
    have f:∀x∈Ce s,x∈(Ce (Store.mk ((s.Vols.filter fun v=>decide (v.Id<r.Vol))++ [Vol.mk r.Vol q]++s.Vols.filter fun v=>decide (v.Id>r.Vol)) s.Arena s.Next)):=by
     intro x hx;obtain⟨v,hv,rfl⟩:=AL.1 hx;refine AL.2 ⟨v,?_,rfl⟩;have:=h2 v hv;simp only [Aj,AR,A6];by_cases e:v.Id<r.Vol
     ·exact .inl (.inl ⟨hv,by simpa using e⟩)
     ·exact .inr ⟨hv,by simp;omega⟩
    have b:∀x∈(Ce (Store.mk ((s.Vols.filter fun v=>decide (v.Id<r.Vol))++ [Vol.mk r.Vol q]++s.Vols.filter fun v=>decide (v.Id>r.Vol)) s.Arena s.Next)),x= -1\/x∈Ce s:=by
     intro x hx;obtain⟨v,hv,rfl⟩:=AL.1 hx;simp only [Aj,AR,A6]at hv
     rcases hv with(hv|rfl)|hv
     ·exact .inr (AL.2 ⟨v,hv.1,rfl⟩)
     ·exact g3
     ·exact .inr (AL.2 ⟨v,hv.1,rfl⟩)
    refine⟨_,rfl,⟨⟨d,h.ar,h.nx,?_,o5 h.asc (Vol.mk r.Vol q),?_,?_,h.few⟩,?_⟩,?_,rfl⟩
    ·intro v hv;simp only [Aj,AR,A6]at hv
     rcases hv with(hv|rfl)|hv
     ·exact h.ids v hv.1
     ·show 1<=r.Vol/\r.Vol<=9;omega
     ·exact h.ids v hv.1
    ·intro x hx
     rcases b x hx with e|e
     ·rw [e];rfl
     ·exact h.root x e
    ·intro x hx
     rcases b x hx with e|e
     ·intro y hy;rw [e]at hy;change y∈E9 s.Arena.Knots (-1)at hy;rw [lT]at hy;have:=DO hy;have:=h.nx;show y<s.Next;omega
     ·exact h.lt x e
    ·intro i hi;exact AAv f (h.used i hi)
    ·rw [<-g4];unfold rD BO;simp only [Cv,B5,sS,List.filter_map];rfl
  ·rw [h1];simp only [Aa];rw [Ac (by omega),Af];have hg:=Nx h.asc (AH h2);rw [h3]at hg;rw [Ay (.inr (.inl (by rw [hg];simp)))];simp only [Aa,Af];rw [a];rfl
theorem Zw {l:List Vol} (h:(l.map Vol.Id).Pairwise (·<·)) {k:Nat} {v:Vol} (hv:l[k]?=some v):l.take k++l.drop (k+1)=l.filter fun w=>w.Id !=v.Id:=by
 rw [Mq]at h;have hk:=(Ah.1 hv).1;have e:l=l.take k++v::l.drop (k+1):=by
  have h2:=Bo hk;rw [(Ah.1 hv).2]at h2;rw [<-h2,Br]
 rw [e,Bm]at h;obtain⟨h1,h2,h3⟩:=h;rw [CF]at h2
 conv=>rhs;rw [e]
 rw [AZ,Co (by simp)];congr 1
 ·symm;rw [FJ];intro w hw;have:=h3 w hw v (by simp);simp;omega
 ·symm;rw [FJ];intro w hw;have:=h2.1 w hw;simp;omega
theorem AAF {s:Store} (h:DV s) (r:CD):On s r (UQ s r):=by
 have hl:=h.len;have g:=Sk h.ar (by have:=h.few;omega);have a:=Lj s g (by omega);unfold UQ;rw [T4 h,PP];simp only [Aa,Aq,Ad]
 cases hb:GN r with
 |false=>
  simp only [Bg,Af];rw [a];unfold On Dv;rw [hb];rfl
 |true=>
  simp only [Aq,Ad];have hr:=hb;unfold GN at hr
  cases k1:(r.Kind==1)with
  |true=>
   have e1:r.Kind=1:=by simpa using k1
   rw [e1]at hr;simp at hr;unfold On Dv;rw [hb,e1];simp only [Il,Jw,Cb,Af];have:(bif(r.Arg==0)then(some 1)else(some r.Arg):Option (Int))=some (if r.Arg=0 then 1 else r.Arg):=by
    by_cases e:r.Arg=0
    ·rw [Ay e,e];rfl
    ·rw [A0 e,show(r.Arg==0)=false by simpa using e];rfl
   rw [this];refine⟨_,rfl,⟨⟨by simp,rfl,?_,by simp,by simp,by simp [Ce],by simp [Ce],by simp⟩,by simp⟩,rfl,rfl⟩;show 1<=(if r.Arg=0 then 1 else r.Arg)/\(if r.Arg=0 then 1 else r.Arg)<=1000000000;split<;>omega
  |false=>
   simp only [Ad];have n1:r.Kind≠1:=by simpa using k1
   rw [k1]at hr
   cases k2:(r.Kind==2)with
   |true=>
    simp only [Af];have:=wO h hb (by simpa using k2);have e:((LN s r).bind fun v4=>some (v4.1,v4.2))=LN s r:=by cases LN s r<;>rfl
    rw [e];exact this
   |false=>
    simp only [Ad];have n2:r.Kind≠2:=by simpa using k2
    rw [k2]at hr;have hv:1<=r.Vol/\r.Vol<=9:=by simp at hr;omega
    unfold On Dv;rw [hb];simp only [Il,Jw,A0 n1,A0 n2]
    rcases Hn s (by omega) r.Vol with⟨h1,h2⟩|⟨k,v,h1,h2,h3,_⟩
    ·rw [h1];simp only [Aa];rw [Ac (by omega),Af,Ay (.inl (JX.1 h2))];simp only [Aa,Af];rw [a];rfl
    ·rw [h1];simp only [Aa];rw [Ae (by omega),Ad];simp only [Aa];have hm:=AH h2;have i:=(Ah.1 h2).1;have hg:=Nx h.asc hm;rw [h3]at hg
     cases hc:(r.Chunk==1000000000)with
     |true=>
      simp only [Af];rw [Ay (.inr (by simpa using hc)),a];rfl
     |false=>
      simp only [Ad];have m:r.Chunk≠1000000000:=by simpa using hc
      rw [A0 (by
       rintro(hh|hh)
       ·rw [hg]at hh;cases hh
       ·exact m hh),a]
      simp only [Aa]
      cases k3:(r.Kind==3)with
      |true=>
       have e3:r.Kind=3:=by simpa using k3
       rw [Ay e3];simp only [Af];rw [Cl,ad1 (by omega)];have d1:dr s.Vols 0 (k:Int)=some (s.Vols.take k):=by
        unfold dr;rw [Ay ⟨by omega,by omega,by omega⟩];simp
       have d2:dr s.Vols ((k+1:Nat):Int) (s.Vols.length:Int)=some (s.Vols.drop (k+1)):=by
        unfold dr;rw [Ay ⟨by omega,by omega,by omega⟩,B6,B6,AY (by simp)]
       rw [d1,d2];simp only [Aa];rw [OA (by simp;omega)];simp only [Aa];rw [CI (by simp;omega),Zw h.asc h2,h3];simp only [Aa];have hR:Tg (Store.mk (s.Vols.filter fun w=>w.Id !=r.Vol) s.Arena s.Next):=by
        refine⟨?_,h.ar,h.nx,fun v hv=>h.ids v (AR.1 hv).1,?_,?_,?_,h.few⟩
        ·have:=Cp (fun w:Vol=>w.Id !=r.Vol) s.Vols;show(s.Vols.filter fun w=>w.Id !=r.Vol).length<=3;omega
        ·have:=h.asc;rw [Mq]at this⊢;exact this.filter _
        ·intro x hx;obtain⟨w,hw,rfl⟩:=AL.1 hx;exact h.root _ (AL.2 ⟨w,(AR.1 hw).1,rfl⟩)
        ·intro x hx;obtain⟨w,hw,rfl⟩:=AL.1 hx;exact h.lt _ (AL.2 ⟨w,(AR.1 hw).1,rfl⟩)
       rw [Qx hR];refine⟨_,rfl,tI hR,?_,rfl⟩;rw [ZC hR];exact sH s (fun id=>id !=r.Vol) _ rfl rfl
      |false=>
       have n3:r.Kind≠3:=by simpa using k3
       rw [A0 n3];simp only [Ad];rw [k3]at hr;have ha:0<=r.Arg/\r.Arg<16/\0<=r.Chunk/\r.Chunk<=1000000000:=by
        cases k4:(r.Kind==4)with
        |true=>rw [k4]at hr;simp at hr;omega
        |false=>rw [k4]at hr;simp at hr;omega
       obtain⟨t,ht⟩:∃t:Nat,r.Arg=(t:Int):=⟨_,(B3 ha.1).symm⟩;rw [AI,h2];simp only [Aa];have c:=h.root _ (AL.2 ⟨v,hm,rfl⟩);rw [ht,pW _ (by have:=h.few;omega) h.ar c (by omega) ha.2.2.1];simp only [Aa];rw [Hc];have h0:=h.small;have hR:Tg (Store.mk (s.Vols.set k (Vol.mk v.Id ((s.Arena.Knots.length:Int)+1))) (Arena.mk (JR s.Arena.Knots v.Root t r.Chunk)) (max s.Next (r.Chunk+1))):=by
        have d:∀w∈s.Vols.set k (Vol.mk v.Id ((s.Arena.Knots.length:Int)+1)),w∈s.Vols\/w=Vol.mk v.Id ((s.Arena.Knots.length:Int)+1):=fun w hw=>D8 hw
        refine⟨by simpa using hl,ACW h.ar c (by omega) ha.2.2.1,?_,?_,?_,?_,?_,?_⟩
        ·have:=h.nx;show 1<=max s.Next (r.Chunk+1)/\max s.Next (r.Chunk+1)<=1000000000;omega
        ·intro w hw
         rcases d w hw with hw|rfl
         ·exact h.ids w hw
         ·exact h.ids v hm
        ·have:(s.Vols.set k (Vol.mk v.Id ((s.Arena.Knots.length:Int)+1))).map Vol.Id=s.Vols.map Vol.Id:=by
          rw [List.map_set];show(s.Vols.map Vol.Id).set k v.Id=_;apply CS;intro j;rw [Cn];split
          ·rename_i e;subst e;rw [By,Ay i,Bb,h2];rfl
          ·rfl
         rw [this];exact h.asc
        ·intro x hx;obtain⟨w,hw,rfl⟩:=AL.1 hx
         rcases d w hw with hw|rfl
         ·exact zD (h.root _ (AL.2 ⟨w,hw,rfl⟩))
         ·exact vJ
        ·intro x hx y hy;obtain⟨w,hw,rfl⟩:=AL.1 hx;show y<max s.Next (r.Chunk+1)
         rcases d w hw with hw|rfl
         ·have o:=h.root _ (AL.2 ⟨w,hw,rfl⟩);have f:y∈E9 s.Arena.Knots w.Root:=by rw [<-tM (X:=[BR.mk true (OJ s.Arena.Knots v.Root t r.Chunk),BR.mk false (Rp s.Arena.Knots v.Root t)]) h.ar o];exact hy
          have:=h.lt _ (AL.2 ⟨w,hw,rfl⟩) y f;omega
         ·have f:y∈(E9 s.Arena.Knots v.Root).set t r.Chunk:=by rw [<-tT (s:=t) (n:=r.Chunk) h.ar c (by omega)];exact hy
          rcases D8 f with f|rfl
          ·have:=h.lt _ (AL.2 ⟨v,hm,rfl⟩) y f;omega
          ·omega
        ·show(JR s.Arena.Knots v.Root t r.Chunk).length<=1000;unfold JR;simp;omega
       have l:BO (Store.mk (s.Vols.set k (Vol.mk v.Id ((s.Arena.Knots.length:Int)+1))) (Arena.mk (JR s.Arena.Knots v.Root t r.Chunk)) (max s.Next (r.Chunk+1)))=o8 (BO s) r.Vol t r.Chunk:=by
        unfold BO o8;simp only [Eo];apply CS;intro j;rw [Bb,Bb,Cn];by_cases e:k=j
        ·subst e;rw [Ay rfl,Ay i,h2];simp only [B7,Function.comp];rw [Ay h3,tT h.ar c (by omega)]
        ·rw [A0 e]
         cases hj:s.Vols[j]? with
         |none=>rfl
         |some w=>
          have p:=AH hj;have u:w.Id≠r.Vol:=by
           intro e2;have gi:(s.Vols.map Vol.Id)[k]?=some v.Id:=by rw [Bb,h2];rfl
           have gj:(s.Vols.map Vol.Id)[j]?=some w.Id:=by rw [Bb,hj];rfl
           rcases Mo k j with q|q|q
           ·have:=Pw h.asc q gi gj;omega
           ·exact e q
           ·have:=Pw h.asc q gj gi;omega
          simp only [B7,Function.comp];rw [A0 u];have:=tM (X:=[BR.mk true (OJ s.Arena.Knots v.Root t r.Chunk),BR.mk false (Rp s.Arena.Knots v.Root t)]) h.ar (h.root _ (AL.2 ⟨w,p,rfl⟩));unfold JR;rw [this]
       have z:∀b:Bool,b=decide (r.Chunk>=s.Next)->(bif b then((Gr (Store.mk (s.Vols.set k (Vol.mk v.Id ((s.Arena.Knots.length:Int)+1))) (Arena.mk (JR s.Arena.Knots v.Root t r.Chunk)) (ad r.Chunk 1))).bind fun v11=>some (v11,true))else((Gr (Store.mk (s.Vols.set k (Vol.mk v.Id ((s.Arena.Knots.length:Int)+1))) (Arena.mk (JR s.Arena.Knots v.Root t r.Chunk)) s.Next)).bind fun v12=>some (v12,true)))=(Gr (Store.mk (s.Vols.set k (Vol.mk v.Id ((s.Arena.Knots.length:Int)+1))) (Arena.mk (JR s.Arena.Knots v.Root t r.Chunk)) (max s.Next (r.Chunk+1)))).bind fun v=>some (v,true):=by
        intro b hb;have:=h.nx;by_cases e:r.Chunk>=s.Next
        ·rw [hb,Ac e,Af,C7 (by omega) (by omega),show max s.Next (r.Chunk+1)=r.Chunk+1 by omega]
        ·rw [hb,Ae e,Ad,show max s.Next (r.Chunk+1)=s.Next by omega]
       rw [z _ rfl,Qx hR];refine⟨_,rfl,tI hR,?_,rfl⟩;rw [ZC hR,l,B6]
end Go.TI
