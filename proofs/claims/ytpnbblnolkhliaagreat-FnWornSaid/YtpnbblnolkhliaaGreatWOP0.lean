/- Lives without torn steps: blocks are worn as often as they were wiped, and what is done is lawful. No condition; no program is in sight. -/
import Derived.Test.YtpnbblnolkhliaaGreatWOD
set_option linter.unusedVariables false
set_option linter.unusedSimpArgs false
namespace Go.TI
open Go
def u32 (s:Int):Prop:=0<=s/\s<4294967296
theorem vG (s:Int) (hs:u32 s):∃v,Al (λs:Int×Int=>Jc s.1 s.2) (s,0)=some v/\Al (λs:Int×Int=>Jm s.1 s.2) (s,0)=some v/\u32 v:=
 HC (body:=λs:Int×Int=>Jc s.1 s.2) (body':=λs:Int×Int=>Jm s.1 s.2) (λ(s:Int) i=>(s,i)) 8 (λ_ s=>u32 s) u32
  (λs i hi hs=>by
   simp only[Jc,Jm];rw[Ac (by omega:(i:Int)<8),Ai,Ai,an1 hs.1 hs.2,<-AFB hs.1 hs.2];refine⟨rfl,.inl ?_⟩;have hw:u32 (IntKind.u32.wrap<|Int.tdiv s 2):=by rw[IntKind.wrap_u32];constructor<;>omega
   cases Int.tmod s 2==1
   ·exact⟨_,by rw[Ad,ad1],hw⟩
   exact⟨_,by rw[Ai,ad1],AEb _ _⟩)
  (λs hs=>by
   simp only[Jc,Jm]
   grind) (s:=s) hs
theorem vF (s:Int) (t:ByteArray) (hs:u32 s) (ht:(L t).length<=9223372036854775806):∃v,T5 s t=some v/\TL s t=some v/\u32 v:=by
 obtain⟨v,h1,h2,h3⟩:=HC (body:=λs:Int×Int=>KI t s.1 s.2) (body':=λs:Int×Int=>Lc t s.1 s.2) (λ(s:Int) i=>(s,i)) (L t).length (λ_ s=>u32 s) u32
  (λs i hi hs=>by
   obtain⟨v,h1,h2,h3⟩:=vG (xr s<|IntKind.u32.wrap ((L t)[i]).toNat)<|AEb _ _;simp only[KI,Lc];rw[Ac (by rw[B4];omega:(i:Int)<FJ t),Ai,Ai,EZ t hi,Aa,Aa,h1,h2]
   exact⟨rfl,.inl ⟨v,by rw[Aa,ad1],h3⟩⟩)
  (λs hs=>by
   simp only[KI,Lc];rw[Af (by rw[B4];omega:¬((L t).length:Int)<FJ t),Ad,Ad]
   grind) (s:=s) hs
 unfold T5 TL
 grind
theorem r7 (t:ByteArray) (ht:(L t).length<=9223372036854775806):∃v,OY t=some v/\Zt t=some v/\u32 v:=by
 obtain⟨v,h1,h2,h3⟩:=vF 4294967295 t ⟨by omega,by omega⟩ ht;unfold OY Zt
 grind
def four (v:Int):ByteArray:=Fd [IntKind.u8.wrap<|Int.fdiv v<|2^(min (24:Int).toNat IntKind.u32.bits),IntKind.u8.wrap<|Int.fdiv v<|2^(min (16:Int).toNat IntKind.u32.bits),IntKind.u8.wrap<|Int.fdiv v<|2^(min (8:Int).toNat IntKind.u32.bits),IntKind.u8.wrap v]
theorem WA (v:Int):(L (four v)).length=4:=by rfl
theorem jS (t:ByteArray):IJ t=KK t:=by
 unfold IJ KK;by_cases h:(FJ t)>20000
 ·grind
 rw[B4]at h;obtain⟨v,h1,h2,_⟩:=r7 t (by omega);rw[h1,h2];rfl
theorem Ui (t:ByteArray):(20000<(L t).length->KK t=some (bs [],false))/\((L t).length<=20000->∃v,OY t=some v/\KK t=some (t++four v,true)):=by
 unfold KK;rw[B4];refine⟨λh=>by rw[cT],λh=>?_⟩;obtain⟨v,h1,h2,_⟩:=r7 t (by omega);rw[cF,h1];refine⟨v,rfl,?_⟩;have:LJ v=some (four v):=rfl;rw[Aa,this,Aa,FO _ _ (by rw[WA];omega),Aa]
theorem rY (t:ByteArray) (ht:(L t).length<=9223372036854775806):∃u ok,LL t=some (u,ok)/\Rg t=some (u,ok)/\(ok=true->(L u).length<=20000/\∃v,OY u=some v/\t=u++four v)/\(ok=false->u=bs []):=by
 unfold LL Rg;have e4:sb (FJ t) 4=((L t).length:Int)-4:=by rw[B4,Cp]
 rw[e4];by_cases h4:(L t).length<4
 ·rw[Ac (by omega:((L t).length:Int)-4<0),Ac (by rw[B4];omega:FJ t<4)]
  grind
 rw[Af (by omega:¬((L t).length:Int)-4<0),Af (by rw[B4];omega:¬FJ t<4)];have en:((L t).length:Int)-4=(((L t).length-4:Nat):Int):=by omega
 rw[en,B4];have b:sub t 0 (((L t).length-4:Nat):Int)=some (t.extract 0<|(L t).length-4):=Fc t (i:=0) (by omega) (by omega);have a:sub t (((L t).length-4:Nat):Int) ((L t).length:Int)=some (t.extract ((L t).length-4) (L t).length):=Fc t (by omega) (by omega);rw[b,a];simp only[Aa];have hu:(L<|t.extract 0<|(L t).length-4).length=(L t).length-4:=by rw[Ie];simp
 obtain⟨k1,k2⟩:=Ui<|t.extract 0<|(L t).length-4;rw[jS];by_cases hb:20000<(L t).length-4
 ·grind
 obtain⟨v,h1,h2⟩:=k2 (by omega);rw[Af (by omega:¬(((L t).length-4:Nat):Int)>20000),h1,h2];have h3:LJ v=some (four v):=rfl;simp only[Ad,Aa,h3,An];have c:seq (t.extract ((L t).length-4) (L t).length) (four v)=seq (t.extract 0 ((L t).length-4)++four v) t:=by
  rw[RK,RK,DO,Ie,Ie,G5,A6,A6];have e1:List.take ((L t).length-((L t).length-4)) (List.drop ((L t).length-4)<|L t)=(L t).drop ((L t).length-4):=AK (by simp);have e2:List.take ((L t).length-4-0) (List.drop 0<|L t)=(L t).take ((L t).length-4):=by simp
  rw[e1,e2];constructor
  ·intro h;rw[<-h,BS]
  grind
 rw[c]
 cases hs:seq (t.extract 0 ((L t).length-4)++four v) t with
 |false=>grind
 |true=>
  rw[JZ,A6]at hs
  grind
theorem Jh (n:Nat) (h:n<=1099511627776):∃s,H6 (n:Int)=some s/\L s=Cy n:=by
 unfold H6;obtain⟨m,o,h1,h2,h3,h4⟩:=jE (body:=λs:Int×List Int=>OW s.1 s.2) (λ_ _=>rfl) n [] (by simpa using h);rw[h1,Aa];have:IntKind.u8.wrap (m:Int)=m:=by rw[IntKind.wrap_u8];omega
 rw[this,Bk (by grind),Aa];refine⟨_,rfl,?_⟩;rw[Mk,h4];simp
def AEh (t:ByteArray) (at_:Int) (r:Int×Int×Bool):Prop:=(r.2.2=false/\r.1=0/\r.2.1=0)\/(r.2.2=true/\∃(a b n:Nat),at_=a/\r.2.1=b/\r.1=n/\a<b/\b<=(L t).length/\n<=1000000000/\Cy n=((L t).drop a).take (b-a))
theorem ZN (l:List UInt8) (a k:Nat) (h:a+k<l.length):(l.drop a).take (k+1)=(l.drop a).take k++ [l[a+k]]:=by
 rw[Aj (by simp;omega),V3]
theorem lM (k:Nat) (h:k<5):(128:Nat)^k<=268435456:=by
 have:k<=4:=by omega
 calc 128^k<=128^4:=Nat.pow_le_pow_right (by omega) this
  _=268435456:=by decide
theorem Ze:∀ds:List UInt8,Fs ds<128^ds.length
 |[]=>by simp[Fs]
 |d::ds=>by
  have:=Ze ds;simp only[Fs,AA,vM];omega
theorem AC4 (x k:Nat) (hx:x<128) (hk:k<5):shl .i64 (x:Int) (ml 7 (k:Int))=some ((x*128^k:Nat):Int):=by
 have h7:ml 7 (k:Int)=((7*k:Nat):Int):=by rw[PV (by omega)<|by omega];omega
 unfold shl;rw[h7,AM<|by omega];have e:(2:Int)^(min ((7*k:Nat):Int).toNat IntKind.i64.bits)=((128^k:Nat):Int):=by
  have hb:IntKind.i64.bits=64:=rfl;have h128:(128:Nat)^k=2^(7*k):=by rw[Nat.pow_mul]
  grind
 rw[e];have hp:=lM k hk;have hm:x*128^k<=128*268435456:=fX (by omega) hp;have ec:(x:Int)*((128^k:Nat):Int)=((x*128^k:Nat):Int):=by norm_cast
 rw[ec,OH (by omega)<|by omega]
theorem kC (x:Nat):Int.tmod (x:Int) 128=((x %128:Nat):Int):=rfl
theorem IT (t:ByteArray) (at_:Int) (ht:(L t).length<=4611686018427387904) (o:oI at_):∃r,Kr t at_=some r/\K1 t at_=some r/\AEh t at_ r:=by
 have fails:∀(at_:Int),(at_<0\/((L t).length:Int)<=at_)->oI at_->K1 t at_=some (0,0,false):=by
  intro at_ h o;unfold K1;rw[Ax];simp only[H1];rw[cT];by_cases h0:at_>=0
  ·rw[Ac h0,Ai,B4,Cp,Af<|by omega];rfl
  grind
 by_cases h4:0<=at_/\at_<(L t).length
 ·obtain⟨a,rfl⟩:=Cz h4.1;have h5:∀(B1:Int×Int×Int->Option ((Int×Int×Int)⊕Unit⊕(Int×Int×Bool))) (B2:Int×Int->Option ((Int×Int)⊕Unit⊕(Int×Int×Bool))),(∀n sc i,B1 (n,sc,i)=DG t (a:Int) n sc i)->(∀n k,B2 (n,k)=H1 t (a:Int) n k)->∀(m k:Nat),k+m=5->a+k<=(L t).length->(∀d∈((L t).drop a).take k,128<=d.toNat)->
    ∃r,(Al B1 (((Fs (((L t).drop a).take k):Nat):Int),((128^k:Nat):Int),((a+k:Nat):Int))=some r/\Al B2 (((Fs (((L t).drop a).take k):Nat):Int),(k:Int))=some r)/\(r= .inl ()\/∃q,r= .inr q/\AEh t (a:Int) q):=by
   intro B1 B2 p u m
   induction m with
   |zero=>
    intro k hk h6 hd;have f:k=5:=by omega
    subst f;refine⟨.inl (),⟨?_,?_⟩,.inl rfl⟩
    ·rw[Ax];simp only[p,DG];rw[Cw,Af (by omega:¬((a+5:Nat):Int)<(a:Int)+5)]
     grind
    rw[Ax];simp only[u,H1];rfl
   |succ m ih=>
    intro k hk h6 hd;rw[Ax,Ax B2];simp only[p,u,DG,H1];have f:k<5:=by omega
    rw[Cw (b:=5) (by omega) (by omega),Ac (by omega:((a+k:Nat):Int)<(a:Int)+5),Ac (by omega:(k:Int)<5),Ac (by omega:(a:Int)>=0),B4,Cp];by_cases v:a+k<(L t).length
    ·rw[Ac (by omega:((a+k:Nat):Int)<((L t).length:Int)),Ac (by omega:(a:Int)<((L t).length:Int)-k)];have eak:ad (a:Int) (k:Int)=((a+k:Nat):Int):=by rw[Cw];omega
     simp only[Ai,Aa,EZ t v,eak];have hx:=oG<|(L t)[a+k];have j:=ZN (L t) a k v;have w:(((L t).drop a).take k).length=k:=by simp;omega
     have g:=OP (((L t).drop a).take k) [(L t)[a+k]];rw[<-j,w]at g;have h7:=Ze<|((L t).drop a).take k;rw[w]at h7;have hp:=lM k f;generalize a4:(L t)[a+k]=x at hx j g;simp only[Fs,Nat.mul_zero,OL]at g;have hw:IntKind.i64.wrap (x.toNat:Int)=x.toNat:=OH (by omega) (by omega);have a2:x.toNat %128*128^k<=127*268435456:=fX (by omega) hp;have emul:ml ((x.toNat %128:Nat):Int) ((128^k:Nat):Int)=((x.toNat %128*128^k:Nat):Int):=by
      have ec:((x.toNat %128:Nat):Int)*((128^k:Nat):Int)=((x.toNat %128*128^k:Nat):Int):=by norm_cast
      rw[PV (by rw[ec];omega) (by rw[ec];omega),ec]
     have enew:ad (((Fs (((L t).drop a).take k):Nat)):Int) ((x.toNat %128*128^k:Nat):Int)=((Fs (((L t).drop a).take<|k+1):Nat):Int):=by
      rw[Cw,g,Nat.mul_comm<|128^k];omega
     rw[hw,kC,AC4 _ k (by omega) f];simp only[Aa,emul,enew];by_cases l:x.toNat<128
     ·rw[Ac (by omega:(x.toNat:Int)<128),Af (by omega:¬(x.toNat:Int)>=128)];have ek1:ad ((a+k:Nat):Int) 1=((a+k+1:Nat):Int):=ad1 (by omega);have c:=jD (((L t).drop a).take k) x hd l;rw[<-j]at c;have h8:(((L t).drop a).take k≠ [])↔0<k:=by grind
      rw[h8]at c;have y:sub t (a:Int) ((a+k+1:Nat):Int)=some (t.extract a<|a+k+1):=Fc t (by omega) (by omega);rw[ek1,y];by_cases a3:Fs (((L t).drop a).take<|k+1)>1000000000
      ·rw[Ac (by omega:((Fs (((L t).drop a).take<|k+1):Nat):Int)>1000000000)];refine⟨.inr (0,0,false),⟨rfl,?_⟩,.inr ⟨_,rfl,.inl ⟨rfl,rfl,rfl⟩⟩⟩
       grind
      rw[Af (by omega:¬((Fs (((L t).drop a).take<|k+1):Nat):Int)>1000000000)];obtain⟨s,h9,a0⟩:=Jh (Fs<|((L t).drop a).take<|k+1) (by omega);simp only[Ad,Aa,h9];have z:seq s (t.extract a<|a+k+1)=decide (¬(x.toNat=0/\0<k)):=by
       rw[RK,a0,Ie,show a+k+1-a=k+1 by omega,G5,A6,A6];exact c
      rw[z];by_cases hz:x.toNat=0/\0<k
      ·rw[Af λe=>e hz];refine⟨.inr (0,0,false),⟨rfl,?_⟩,.inr ⟨_,rfl,.inl ⟨rfl,rfl,rfl⟩⟩⟩
       grind
      rw[Ac hz];refine⟨.inr (((Fs (((L t).drop a).take<|k+1):Nat):Int),((a+k+1:Nat):Int),true),⟨rfl,?_⟩,.inr ⟨_,rfl,.inr ⟨rfl,a,a+k+1,_,rfl,rfl,rfl,by omega,by omega,by omega,?_⟩⟩⟩
      ·by_cases a1:x.toNat=0
       ·have:((x.toNat:Int)==0)=true:=by rw[a1];rfl
        rw[this,Af (by omega:¬(k:Int)>0)];rfl
       grind
      rw[show a+k+1-a=k+1 by omega];exact c.2 hz
     rw[Af (by omega:¬(x.toNat:Int)<128),Ac (by omega:(x.toNat:Int)>=128)];have e1:ml ((128^k:Nat):Int) 128=((128^(k+1):Nat):Int):=by
      rw[PV (by omega) (by omega),vM];norm_cast
     have e2:ad ((a+k:Nat):Int) 1=((a+(k+1):Nat):Int):=ad1 (by omega);have e3:ad (k:Int) 1=((k+1:Nat):Int):=ad1 (by omega);rw[e1,e2,e3];exact ih (k+1) (by omega) (by omega)<|by grind
    rw[Af (by omega:¬((a+k:Nat):Int)<((L t).length:Int)),Af (by omega:¬(a:Int)<((L t).length:Int)-k)];simp
  obtain⟨r,⟨h1,h2⟩,h3⟩:=h5 (λs=>DG t (a:Int) s.1 s.2.1 s.2.2) (λs=>H1 t (a:Int) s.1 s.2) (λ_ _ _=>rfl) (λ_ _=>rfl) 5 0 rfl (by omega) (by simp);unfold Kr K1;have hw:BA (a:Int) 0 (FJ t)=some true:=by
   unfold BA;rw[cT,B4,Ac<|by omega]
  rw[hw];simp only[Lv,Fs,Nat.pow_zero,OL]at h1 h2;rw[show((0:Nat):Int)=0 from rfl,show((1:Nat):Int)=1 from rfl]at h1;rw[show((0:Nat):Int)=0 from rfl]at h2;rw[h1,h2]
  rcases h3 with rfl|⟨q,rfl,h3⟩
  ·exact⟨_,rfl,rfl,.inl ⟨rfl,rfl,rfl⟩⟩
  grind
 have hf:=fails at_ (by omega) o;refine⟨(0,0,false),?_,hf,.inl ⟨rfl,rfl,rfl⟩⟩;unfold Kr;by_cases h0:0<=at_/\at_<=(L t).length
 ·have hw:BA at_ 0 (FJ t)=some true:=by
   unfold BA;rw[cT,B4,Ac<|by omega]
  rw[hw];rw[Ax];simp only[DG];rw[Af (by rw[B4];omega:¬at_<FJ t)];rfl
 have hw:BA at_ 0 (FJ t)=some false:=by
  unfold BA;by_cases h1:at_>=0
  ·rw[Ac h1,Ai,B4,Af<|by omega]
  grind
 rw[hw];rfl
theorem cQ:GB=BA:=rfl
variable {r n x:Int} {R:List Int} {i j k:Nat} {s:Store} {α γ:Type} {v:Vol} {p:Nat->Bool} {l:List α}
theorem Cg {i:Int} {x:α} (h:gi l i=some x):0<=i/\l[i.toNat]?=some x:=by
 unfold gi at h
 grind
theorem R1:NX=FY:=by
 have h2:NG=E6:=by
  funext x y;unfold NG E6
  cases decide (y<ln x.Leaves)with
  |false=>rfl
  |true=>
   cases gi x.Leaves y with
   |none=>rfl
   |some z=>rfl
 funext f;unfold NX FY;have:NH f=E7 f:=by
  funext i;unfold NH E7;rw[h2];rfl
 rw[this];rfl
def Kh (f:Flash):Prop:=f.Blocks.length<=1048576/\∀b∈f.Blocks,b.Leaves.length<=1048576
theorem RM (x a b:Int):BA x a b=some (decide (a<=x)&&decide (x<=b)):=by
 unfold BA
 grind
theorem ADx (x:Leaf):∃v,NQ x=some v:=by
 unfold NQ;cases x.Is==0
 ·cases x.Is==1
  ·cases x.Is==2<;>exact⟨_,rfl⟩
  simp only[Ai,RM,Aa];exact⟨_,rfl⟩
 exact⟨_,rfl⟩
theorem Vx (f:Flash) (h:Kh f):∃v,FY f=some v/\(v=true->f.Blocks.length<=10/\∀b∈f.Blocks,b.Leaves.length=4):=by
 have a:=AG (body:=λs:Int=>E7 f s) (λ(_:Unit) i=>i) f.Blocks.length (λi _=>∀j b,j<i->f.Blocks[j]?=some b->b.Leaves.length=4) (λr=>r= .inr false\/r= .inl ()/\∀b∈f.Blocks,b.Leaves.length=4)
  (λs i hi hs=>by
   obtain⟨x,hx⟩:∃x,f.Blocks[i]?=some x:=⟨_,Ab hi⟩;have hM:=h.1;simp only[E7,DH hi,Au,hx,Aa,RM];by_cases h4:x.Leaves.length=4
   ·have e1:(ln x.Leaves !=4)=false:=by simp[ln,h4]
    simp only[e1,Ad,Aa]
    cases hw:(decide (0<=x.Wear)&&decide (x.Wear<=1000000000))with
    |false=>grind
    |true=>
     simp only[An,Ad];obtain⟨r,h5,h6⟩:=AG (body:=λs:Int=>E6 x s) (λ(_:Unit) i=>i) x.Leaves.length (λ_ _=>True) (λr=>r= .inl ()\/r= .inr (.inr<|.inr false))
      (λs k hk _=>by
       obtain⟨y,hy⟩:∃y,x.Leaves[k]?=some y:=⟨_,Ab hk⟩;obtain⟨v,hv⟩:=ADx y;simp only[E6,DH hk,Au,hy,Aa,hv];have fin:∀j:Bool,(∃s':Unit,(bif j then some (.inr<|.inr<|.inr<|.inr false)else some (.inl<|ad (k:Int) 1):Option (Int⊕Unit⊕Int⊕Unit⊕Bool))=some (.inl (((k+1:Nat)):Int))/\True)\/∃b,(bif j then some (.inr<|.inr<|.inr<|.inr false)else some (.inl<|ad (k:Int) 1):Option (Int⊕Unit⊕Int⊕Unit⊕Bool))=some (.inr b)/\(b= .inl ()\/b= .inr (.inr<|.inr false)):=by
        intro j
        cases j with
        |true=>grind
        |false=>exact .inl ⟨(),by rw[Ad,ad1],trivial⟩
       cases v with
       |false=>exact fin true
       |true=>
        by_cases c:0<k
        ·rw[cT,Cp,Lm (by omega) (by omega),Aa];cases(x.Leaves[((k:Int)-1).toNat]'(by omega)).Is==0
         ·exact fin false
         exact fin<|y.Is !=0
        rw[Af (by omega:¬(k:Int)>0)]
        exact fin false)
      (λs _=>⟨_,by simp only[E6,Dy],.inl rfl⟩) (s:=()) trivial
     rw[h5,Aa]
     rcases h6 with rfl|rfl
     ·refine .inl ⟨(),by rw[Cq,ad1],?_⟩
      grind
     grind
   have e1:(ln x.Leaves !=4)=true:=by simp[ln];omega
   grind)
  (λs hs=>⟨_,by simp only[E7,Dy],.inr ⟨rfl,λb hb=>by
   obtain⟨j,hj,e⟩:=A4 hb
   exact hs j b hj<|by grind⟩⟩) (s:=()) (λj b hj=>absurd hj<|by omega)
 obtain⟨r,h1,h2⟩:=a;unfold FY;rw[h1,Aa]
 rcases h2 with rfl|⟨rfl,h2⟩
 ·simp
 simp only[Cq,RM,Aa];refine⟨_,rfl,λe=>⟨?_,h2⟩⟩;rw[Ag,A6,A6,Bj]at e;omega
theorem Uj (p:Page):∃v,KN p=some v/\SS p=some v/\(v=true->(p.Kind=1\/p.Kind=2)/\(1<=p.Seq/\p.Seq<=1000000000)/\(1<=p.Tx/\p.Tx<=1000000000)/\(1<=p.Count/\p.Count<=9)/\(0<=p.Part/\p.Part<p.Count)/\FJ p.Text<=90):=by
 unfold KN SS;rw[cQ];simp only[RM,Aa];by_cases h1:1<=p.Seq/\p.Seq<=1000000000
 ·by_cases h2:1<=p.Tx/\p.Tx<=1000000000
  ·by_cases h3:1<=p.Count/\p.Count<=9
   ·have e:sb p.Count 1=p.Count-1:=Cp (by omega) (by omega);rw[e];by_cases h4:0<=p.Part/\p.Part<=p.Count-1
    ·by_cases h5:FJ p.Text>90
     ·refine⟨false,?_,?_,by simp⟩
      ·grind
      grind
     by_cases k2:p.Kind=2
     ·exact⟨true,by grind,by grind,λ_=>⟨.inr k2,h1,h2,h3,⟨h4.1,by omega⟩,by omega⟩⟩
     by_cases k1:p.Kind=1
     ·exact⟨p.Count==1,by grind,by grind,λ_=>⟨.inl k1,h1,h2,h3,⟨h4.1,by omega⟩,by omega⟩⟩
     have hk:(decide (1<=p.Kind)&&decide (p.Kind<=2))=false:=by grind
     exact⟨false,by simp[hk],by grind,by simp⟩
    refine⟨false,?_,?_,by simp⟩
    ·grind
    grind
   have e3:(decide (1<=p.Count)&&decide (p.Count<=9))=false:=by grind
   refine⟨false,?_,?_,by simp⟩
   ·grind
   simp[h1,h2,e3]
  have e2:(decide (1<=p.Tx)&&decide (p.Tx<=1000000000))=false:=by grind
  refine⟨false,?_,?_,by simp⟩
  ·grind
  simp[h1,e2]
 have e1:(decide (1<=p.Seq)&&decide (p.Seq<=1000000000))=false:=by grind
 refine⟨false,?_,?_,by simp⟩
 ·grind
 simp[e1]
def iJ:Page:=Page.mk 0 0 0 0 0<|bs []
theorem IA (u:ByteArray) (a:Int) (hu:(L u).length<=20000) (ha:oI a):Dh (Ev.mk u a true)=some (0,Ev.mk u a true):=by
 obtain⟨r,h1,_,_⟩:=IT u a (by omega) ha;unfold Dh
 grind
theorem Ky {r:Int×Int×Bool} (u:ByteArray) (a:Int) (hu:(L u).length<=20000) (h:Kr u a=some r):Dh (Ev.mk u a false)=some (cond r.2.2 (r.1,Ev.mk u r.2.1 false) (0,Ev.mk u a true)):=by
 unfold Dh
 grind
theorem R7 {a b:Nat} (l:List UInt8) (h:a<=b):l.drop a=(l.drop a).take (b-a)++l.drop b:=by
 have:=(BS (b-a)<|l.drop a).symm;rw[CA,show a+(b-a)=b by omega]at this;exact this
theorem YI (p:Page) (u:ByteArray) (k:UInt8) (n1 n2 n3 n4:Nat) (hp:KN p=some true) (hk:p.Kind=(k.toNat:Int)) (h1:p.Seq=n1) (h2:p.Tx=n2) (h3:p.Part=n3) (h4:p.Count=n4) (b1:n1<=1000000000) (b2:n2<=1000000000) (b3:n3<=1000000000) (b4:n4<=1000000000) (hu:(L u).length<=20000) (e:L u=[k]++Cy n1++Cy n2++Cy n3++Cy n4++L p.Text):Et p=KK u:=by
 obtain⟨s1,q1,r1⟩:=Jh n1 (by omega);obtain⟨s2,q2,r2⟩:=Jh n2 (by omega);obtain⟨s3,q3,r3⟩:=Jh n3 (by omega);obtain⟨s4,q4,r4⟩:=Jh n4 (by omega);have hl:=BK List.length e;have hb:Ko p.Kind=some (Fd [IntKind.u8.wrap p.Kind]):=rfl;have a:L (Fd [IntKind.u8.wrap p.Kind])=[k]:=by
  rw[Mk,hk,IntKind.wrap_u8];have:=oG k;have e2:((k.toNat:Int) %256).toNat=k.toNat:=by omega
  simp only[Cr,YY,e2,UInt8.ofNat_toNat]
 unfold Et;rw[hp];simp only[Aa,An,Ad,hb,h1,h2,h3,h4,q1,q2,q3,q4];rw[FO _ _ (by grind),Aa,FO _ _ (by rw[DO,a,r1,r2];grind),Aa,FO _ _ (by rw[DO,DO,a,r1,r2,r3];grind),Aa,FO _ _ (by rw[DO,DO,DO,a,r1,r2,r3,r4];grind),Aa,FO _ _ (by rw[DO,DO,DO,DO,a,r1,r2,r3,r4];grind),Aa];have:Fd [IntKind.u8.wrap p.Kind]++s1++s2++s3++s4++p.Text=u:=by
  apply JM;rw[DO,DO,DO,DO,DO,a,r1,r2,r3,r4,e]
 rw[this]
 cases KK u with
 |none=>rfl
 |some v=>rfl
theorem IU (t:ByteArray) (ht:(L t).length<=9223372036854775806):∃p ok,F5 t=some (p,ok)/\Rm t=some (p,ok)/\(ok=false->p=iJ)/\(ok=true->KN p=some true):=by
 obtain⟨u,uok,j,k,m,n⟩:=rY t ht;unfold F5 Rm;rw[j,k];simp only[Aa];have o1:oI 1:=⟨by omega,by omega⟩
 cases uok with
 |false=>
  have:=n rfl;subst this;have hz:(L<|bs []).length<=20000:=by rw[Em];simp
  exact⟨iJ,false,rfl,rfl,λ_=>rfl,by simp⟩
 |true=>
  obtain⟨e,v,hv,o⟩:=m rfl;simp only[An,Ad,Aa];by_cases he:(L u).length<1
  ·have g:seq u (bs [])=true:=by
    rw[RK,A6,Em]
    grind
   rw[Ac (by rw[B4];omega:FJ u<1),g];simp only[Ai,IA _ _ e o1,Aa];exact⟨iJ,false,rfl,rfl,λ_=>rfl,by simp⟩
  have g:seq u (bs [])=false:=by
   rw[RK,Gg,Em]
   grind
  rw[Af (by rw[B4];omega:¬FJ u<1),g];simp only[Ad];have four_:∀(B:Int×Int×Int×Int×Int×Int->Option ((Int×Int×Int×Int×Int×Int)⊕(Int×Int×Int×Int×Int)⊕(Page×Bool))),(∀x y a b c d,B (x,y,a,b,c,d)=EF (u,true) x y a b c d)->
    ∃(a:Int) (m1 m2 m3 m4:Int) (bad:Bool),(∃c1 c2 c3,Dh (Ev.mk u 1 false)=some (m1,c1)/\Dh c1=some (m2,c2)/\Dh c2=some (m3,c3)/\Dh c3=some (m4,Ev.mk u a bad))/\
     Al B (1,0,0,0,0,0)=some (bif bad then .inr (iJ,false)else .inl (a,m1,m2,m3,m4))/\(bad=false->∃(a1 a2 a3 a4 n1 n2 n3 n4:Nat),m1=n1/\m2=n2/\m3=n3/\m4=n4/\a=a4/\1<a1/\a1<a2/\a2<a3/\a3<a4/\a4<=(L u).length/\n1<=1000000000/\n2<=1000000000/\n3<=1000000000/\n4<=1000000000/\
      Cy n1=((L u).drop 1).take (a1-1)/\Cy n2=((L u).drop a1).take (a2-a1)/\Cy n3=((L u).drop a2).take (a3-a2)/\Cy n4=((L u).drop a3).take (a4-a3)):=by
   intro B hB;obtain⟨r1,p1,q1,w1⟩:=IT u 1 (by omega) o1;have g1:=Ky u 1 e p1;rw[Ax,hB];unfold EF;rw[cT,q1,Aa]
   rcases w1 with⟨w1,w2,w3⟩|⟨w1,a0',a1,n1,z0,z1,z2,z3,z4,z5,z6⟩
   ·rw[w1]at g1⊢;exact⟨1,0,0,0,0,true,⟨_,_,_,g1,IA u 1 e o1,IA u 1 e o1,IA u 1 e o1⟩,rfl,by simp⟩
   have ea0:a0'=1:=by omega
   subst ea0;rw[w1]at g1⊢;have x1:oI r1.2.1:=⟨by omega,by omega⟩;simp only[An,Ad,Ai]at g1⊢;rw[show((0:Int)==0)=true from rfl,Ai,show ad 0 1=1 from ad1 (i:=0)<|by omega];simp only;obtain⟨r2,p2,q2,y1⟩:=IT u r1.2.1 (by omega) x1;have g2:=Ky u r1.2.1 e p2;rw[Ax,hB];unfold EF;rw[cT,q2,Aa]
   rcases y1 with⟨y1,_,_⟩|⟨y1,b0,a2,n2,y2,y3,y4,y5,y6,y7,y8⟩
   ·rw[y1]at g2⊢;exact⟨r1.2.1,r1.1,0,0,0,true,⟨_,_,_,g1,g2,IA u _ e x1,IA u _ e x1⟩,rfl,by simp⟩
   have eb:b0=a1:=by omega
   subst eb;rw[y1]at g2⊢;have x2:oI r2.2.1:=⟨by omega,by omega⟩;simp only[An,Ad,Ai]at g2⊢;rw[show((1:Int)==0)=false from rfl,Ad,show((1:Int)==1)=true from rfl,Ai,show ad 1 1=2 from ad1 (i:=1)<|by omega];simp only;obtain⟨r3,p3,q3,k1⟩:=IT u r2.2.1 (by omega) x2;have g3:=Ky u r2.2.1 e p3;rw[Ax,hB];unfold EF;rw[cT,q3,Aa]
   rcases k1 with⟨k1,_,_⟩|⟨k1,c0,a3,n3,k2,k3,k4,k5,k6,k7,k8⟩
   ·rw[k1]at g3⊢;exact⟨r2.2.1,r1.1,r2.1,0,0,true,⟨_,_,_,g1,g2,g3,IA u _ e x2⟩,rfl,by simp⟩
   have ec:c0=a2:=by omega
   subst ec;rw[k1]at g3⊢;have x3:oI r3.2.1:=⟨by omega,by omega⟩;simp only[An,Ad,Ai]at g3⊢;rw[show((2:Int)==0)=false from rfl,Ad,show((2:Int)==1)=false from rfl,Ad,show((2:Int)==2)=true from rfl,Ai,show ad 2 1=3 from ad1 (i:=2)<|by omega];simp only;obtain⟨r4,p4,q4,l1⟩:=IT u r3.2.1 (by omega) x3;have g4:=Ky u r3.2.1 e p4;rw[Ax,hB];unfold EF;rw[cT,q4,Aa]
   rcases l1 with⟨l1,_,_⟩|⟨l1,d0,a4,n4,l2,l3,l4,l5,l6,l7,l8⟩
   ·rw[l1]at g4⊢;exact⟨r3.2.1,r1.1,r2.1,r3.1,0,true,⟨_,_,_,g1,g2,g3,g4⟩,rfl,by simp⟩
   have ed:d0=a3:=by omega
   subst ed;rw[l1]at g4⊢;simp only[An,Ad,Ai]at g4⊢;rw[show((3:Int)==0)=false from rfl,Ad,show((3:Int)==1)=false from rfl,Ad,show((3:Int)==2)=false from rfl,Ad,show((3:Int)==3)=true from rfl,Ai,show ad 3 1=4 from ad1 (i:=3)<|by omega];simp only;rw[Ax,hB];unfold EF;rw[cF];exact⟨r4.2.1,r1.1,r2.1,r3.1,r4.1,false,⟨_,_,_,g1,g2,g3,g4⟩,rfl,λ_=>⟨b0,c0,d0,a4,n1,n2,n3,n4,z2,y4,k4,l4,l3,z3,y5,k5,l5,l6,z5,y7,k7,l7,z6,y8,k8,l8⟩⟩
  obtain⟨a,m1,m2,m3,m4,bad,⟨c1,c2,c3,f1,f2,f3,f4⟩,f5,f6⟩:=four_ (λs:Int×Int×Int×Int×Int×Int=>EF (u,true) s.1 s.2.1 s.2.2.1 s.2.2.2.1 s.2.2.2.2.1 s.2.2.2.2.2) λ_ _ _ _ _ _=>rfl;rw[f5];simp only[f1,f2,f3,f4,Aa]
  cases bad with
  |true=>exact⟨iJ,false,rfl,rfl,λ_=>rfl,by simp⟩
  |false=>
   obtain⟨a1,a2,a3,a4,n1,n2,n3,n4,rfl,rfl,rfl,rfl,rfl,i1,i2,i3,i4,i5,j1,j2,j3,j4,s1,s2,s3,s4⟩:=f6 rfl;simp only[Ad,Aa,Cq];have q:sx u 0=some (((L u)[0]'(by omega)).toNat:Int):=EZ u (i:=0) (by omega);have h:sub u (a4:Int) (FJ u)=some (u.extract a4 (L u).length):=by rw[B4];exact Fc u (by omega)<|by omega
   rw[q,h];simp only[Aa];have hk:=oG ((L u)[0]'(by omega));have hw:IntKind.i64.wrap (((L u)[0]'(by omega)).toNat:Int)=((L u)[0]'(by omega)).toNat:=OH (by omega) (by omega);rw[hw];obtain⟨po,po1,po2,_⟩:=Uj (Page.mk (((L u)[0]'(by omega)).toNat:Int) n1 n2 n3 n4<|u.extract a4 (L u).length);rw[po2]
   cases po with
   |false=>
    have:Et (Page.mk (((L u)[0]'(by omega)).toNat:Int) n1 n2 n3 n4<|u.extract a4 (L u).length)=some (bs [],false):=by
     unfold Et;rw[po1];rfl
    rw[this];exact⟨iJ,false,rfl,rfl,λ_=>rfl,by simp⟩
   |true=>
    have hT:L (u.extract a4 (L u).length)=(L u).drop a4:=by
     rw[Ie];exact AK<|by simp
    have f:L u=[(L u)[0]'(by omega)]++Cy n1++Cy n2++Cy n3++Cy n4++L (u.extract a4 (L u).length):=by
     rw[hT,s1,s2,s3,s4];have h0:L u=[(L u)[0]'(by omega)]++(L u).drop 1:=by
      have:=AI (l:=L u) (i:=0) (by omega);simpa using this
     have d1:=R7 (L u) (a:=1) (b:=a1) (by omega);have d2:=R7 (L u) (a:=a1) (b:=a2) (by omega);have d3:=R7 (L u) (a:=a2) (b:=a3) (by omega);have d4:=R7 (L u) (a:=a3) (b:=a4) (by omega);simp only[AE];rw[<-d4,<-d3,<-d2,<-d1];exact h0
    rw[YI _ u ((L u)[0]'(by omega)) n1 n2 n3 n4 po1 rfl rfl rfl rfl rfl j1 j2 j3 j4 e f];obtain⟨v',hv',hs'⟩:=(Ui u).2 e;rw[hv]at hv'
    injection hv' with hv'
    subst hv';rw[hs',Aa];have:seq (u++four v) t=true:=by rw[JZ,A6];exact o.symm
    simp only[An,Ad,Aa,this];exact⟨_,true,rfl,rfl,by simp,λ_=>po1⟩
def PF (x:Leaf):Nat:=x.Text.size
def KC (x:Block):Nat:=zl PF x.Leaves
def Oc (x:Flash):Nat:=zl KC x.Blocks
theorem ADR (f:Flash) (h:Oc f<=1048576):Kh f/\∀b∈f.Blocks,∀x∈b.Leaves,(L x.Text).length<=1048576:=by
 have h1:=Se (z:=KC) (l:=f.Blocks);unfold Oc at h;refine⟨⟨by omega,λb hb=>?_⟩,λb hb x hx=>?_⟩
 ·have h2:=jY (z:=KC) hb;have h3:=Se (z:=PF) (l:=b.Leaves);have e:KC b=zl PF b.Leaves:=rfl;omega
 have h2:=jY (z:=KC) hb;have h3:=jY (z:=PF) hx;have e:KC b=zl PF b.Leaves:=rfl;have e2:PF x=x.Text.size:=rfl;rw[XO];omega
def nl (l:List Block):Nat:=(l.map λb=>b.Leaves.length).sum
theorem AFM (f:Flash):nl f.Blocks<=Oc f:=by
 unfold nl Oc zl;have:∀l:List Block,(l.map λb=>b.Leaves.length).sum<=(l.map KC).sum:=by
  intro l
  induction l with
  |nil=>simp
  |cons b l ih=>
   have:=Se (z:=PF) (l:=b.Leaves);have e:KC b=zl PF b.Leaves:=rfl
   grind
 grind
def SF (f:Flash) (y:Ap):Prop:=∃b x,gi f.Blocks y.Block=some b/\gi b.Leaves y.Leaf=some x/\(x.Is==1)=true/\F5 x.Text=some (y.Page,true)
theorem YF {b:Block} {x:Leaf} (f:Flash) (hf:Kh f) (hb:f.Blocks[i]?=some b) (hx:b.Leaves[k]?=some x):QB f i k=some (cond (x.Is==1) (x.Text,true) (bs [],false)):=by
 have h1:=(Ae.1 hb).1;have h2:=(Ae.1 hx).1;have h3:=hf.1;have h4:=hf.2 b<|Ar hb;unfold QB;rw[Cp (by rw[Bj];omega) (by rw[Bj];omega),RM,Bj,Ac (by omega:(0:Int)<=(i:Int)),Ac (by omega:(i:Int)<=(f.Blocks.length:Int)-1)];simp only[Aa,Qw,An,Ad,Au,hb];rw[Cp (by rw[Bj];omega) (by rw[Bj];omega),RM,Bj,Ac (by omega:(0:Int)<=(k:Int)),Ac (by omega:(k:Int)<=(b.Leaves.length:Int)-1)]
 grind
theorem cV (f:Flash) (hf:Kh f) (hT:∀b∈f.Blocks,∀x∈b.Leaves,(L x.Text).length<=1048576) (hn:nl f.Blocks<=1048576):
  ∃X,Al (λs:List Ap×Int=>E4 f s.1 s.2) ([],0)=some X/\Al (λs:Int×List Ap=>Jn f s.1 s.2) (0,[])=some X/\X.length<=nl f.Blocks/\∀y∈X,SF f y:=by
 refine MR (body:=λs:List Ap×Int=>E4 f s.1 s.2) (body':=λs:Int×List Ap=>Jn f s.1 s.2) (λs i=>(s,i)) (λs i=>(i,s)) f.Blocks.length (λi a=>a.length<=((f.Blocks.take i).map λb=>b.Leaves.length).sum/\∀y∈a,SF f y) (λX=>X.length<=nl f.Blocks/\∀y∈X,SF f y) ?_ ?_ (s:=[]) ⟨by simp,by simp⟩
 ·intro a i hi ⟨c,d⟩;have hb:f.Blocks[i]?=some f.Blocks[i]:=Ab hi;have hm:f.Blocks[i]∈f.Blocks:=Aw _;have h:=Sk (λb:Block=>b.Leaves.length) f.Blocks i hi;have j:=OQ (λb:Block=>b.Leaves.length) f.Blocks<|i+1;unfold nl at hn;have l:=hf.1;refine .inl ?_;simp only[E4,Jn,DH hi,Au,hb,Aa];obtain⟨u,q1,q2,q3⟩:=MR (body:=λs:List Ap×Int=>Gs f (i:Int) s.1 s.2) (body':=λs:Int×List Ap=>Lg (i:Int) f.Blocks[i] s.1 s.2) (λs i=>(s,i)) (λs i=>(i,s)) f.Blocks[i].Leaves.length (λk u=>u.length<=a.length+k/\∀y∈u,SF f y) (λu=>u.length<=a.length+f.Blocks[i].Leaves.length/\∀y∈u,SF f y)
   (λu k hk hu=>by
    have hx:f.Blocks[i].Leaves[k]?=some f.Blocks[i].Leaves[k]:=Ab hk
    have g:∀y:Ap,ap 72 u [y]=some (u++ [y]):=λy=>Bk<|by grind
    refine .inl ?_;obtain⟨p,ok,r1,r2,r3,r4⟩:=IU f.Blocks[i].Leaves[k].Text (by grind);simp only[Gs,Lg,DH hk,Au,hb,hx,Aa,YF f hf hb hx,r2,g]
    cases e:f.Blocks[i].Leaves[k].Is==1 with
    |false=>
     obtain⟨p',ok',t1,_⟩:=IU (bs []) (by rw[Em];simp);simp only[Ad,Aa,t1];refine⟨u,by rw[ad1],by cases ok<;>(simp only[Ai,Ad,Aa];rw[ad1]),by omega,hu.2⟩
    |true=>
     simp only[Ai,Aa,r1]
     cases ok with
     |false=>exact⟨u,by simp only[Ad];rw[ad1],by simp only[Ad,Aa];rw[ad1],by omega,hu.2⟩
     |true=>
      refine⟨u++ [Ap.mk i k p],by simp only[Ai];rw[ad1],by simp only[Ai,Aa];rw[ad1],by grind,λy hy=>?_⟩
      rcases Ao.1 hy with hy|hy
      ·exact hu.2 y hy
      rw[Bi]at hy;subst hy
      exact⟨_,_,by simp only[Au];exact hb,by simp only[Au];exact hx,e,r1⟩)
   (λu hu=>⟨u,by simp only[Gs,Au,hb,Aa,Dy],by simp only[Lg,Dy],hu⟩) (s:=a) ⟨by omega,d⟩
  rw[q1,q2,Aa,ad1]
  grind
 intro a ⟨c,d⟩;refine⟨a,by simp only[E4,Dy],by simp only[Jn,Dy],?_,d⟩;rw[Dr]at c;exact c
theorem m8 {l:List γ} {i j:Int} {x y:γ} (h:gi l j=some y):∃z,gi (si l i x) j=some z:=by
 obtain⟨h1,h2⟩:=Cg h;have:=(Ae.1 h2).1;unfold gi;rw[AH h1];exact⟨_,Ab (by simp only[si,Ki];exact this)⟩
theorem s7 (l:List Ap) (k:Int):KL l k=(Bl (NW B9) 0 k l).map (Sum.map (λs=>(s.2,s.1)) id):=by
 unfold KL Bl gi2 s6
 cases hk:decide (k>0)with
 |false=>rfl
 |true=>
  cases h1:gi l (sb k 1)with
  |none=>simp
  |some x=>
   cases h2:gi l k with
   |none=>simp
   |some y=>
    simp only[Aa];have e:(decide<|x.Page.Seq>y.Page.Seq)=NW B9 y x:=rfl;rw[e]
    cases NW B9 y x with
    |false=>rfl
    |true=>
     obtain⟨z,hz⟩:=m8 (i:=k) (x:=x) h1;rw[hz];rfl
theorem AC0 {l l':List γ} {i j:Int} (h:s6 l i j=some l'):l'.length=l.length:=by
 unfold s6 at h;obtain⟨x,_,h⟩:=Ah.1 h;obtain⟨y,_,h⟩:=Ah.1 h
 injection h with h
 subst h;simp[si]
theorem ADG {a j:Int} {l r:List Ap} (h:Al (λs:Int×List Ap=>Bl (NW B9) a s.1 s.2) (j,l)=some r):r.length=l.length:=by
 refine zV (λs:Int×List Ap=>s.2.length=l.length) (λr=>r.length=l.length) ?_ ?_ (s:=(j,l)) rfl h
 ·rintro⟨j,m⟩ s' hm hb;obtain⟨c,_,hb⟩:=Ah.1 hb
  cases c with
  |false=>cases hb
  |true=>
   obtain⟨m',h1,hb⟩:=Ah.1 hb
   injection hb with hb
   injection hb with hb
   subst hb;exact(AC0 h1).trans hm
 rintro⟨j,m⟩ b hm hb;obtain⟨c,_,hb⟩:=Ah.1 hb
 cases c with
 |false=>grind
 |true=>
  obtain⟨m',h1,hb⟩:=Ah.1 hb;cases hb
theorem dK (f:Flash) (hf:Kh f) (hT:∀b∈f.Blocks,∀x∈b.Leaves,(L x.Text).length<=1048576) (hn:nl f.Blocks<=1048576):
  ∃r,Fv f=some r/\Ge f=some r/\r.length<=nl f.Blocks/\(∀y∈r,SF f y)/\srt B9 r:=by
 obtain⟨X,h1,h2,h3,h4⟩:=cV f hf hT hn;obtain⟨r,h5,h6,h7⟩:=gN B9 X (by omega);obtain⟨r',h8,h9,h10⟩:=Jj B9 [] X [] (by grind);have hr:r'=r:=Oh B9 h9 h6 (λk=>by rw[h7 k,<-h10 k]);subst hr;refine⟨r',?_,?_,?_,?_,h6⟩
 ·unfold Fv;rw[h1,Aa];simp only[A3,AC,El,HY]at h8;unfold BU at h8;have hc:Al (λs:List Ap×Int=>KM s.1 s.2) (X,1)=Al (λs:Int×List Ap=>Bg (NW B9) ((0:Nat):Int) (X.length:Int) s.1 s.2) (1,X):=by
   refine qB (body:=λs:Int×List Ap=>Bg (NW B9) ((0:Nat):Int) (X.length:Int) s.1 s.2) (body':=λs:List Ap×Int=>KM s.1 s.2) (λs=>(s.2,s.1)) (λs=>s.2.length=X.length) ?_ ?_ (1,X) rfl
   ·rintro⟨j,m⟩ hm;simp only[KM,Bg,Bj,hm]
    cases decide (j<(X.length:Int))with
    |false=>rfl
    |true=>
     rw[uD (body:=λs:Int×List Ap=>Bl (NW B9) ((0:Nat):Int) s.1 s.2) (body':=λs:List Ap×Int=>KL s.1 s.2) (λs=>(s.2,s.1)) (λs=>s7 s.2 s.1) (j,m)];cases Al (λs:Int×List Ap=>Bl (NW B9) ((0:Nat):Int) s.1 s.2) (j,m)<;>rfl
   rintro⟨j,m⟩ s' hm hb;simp only[Bg]at hb
   cases hc:decide (j<(X.length:Int))with
   |false=>grind
   |true=>
    rw[hc,Ai]at hb;obtain⟨m',h1,hb⟩:=Ah.1 hb
    injection hb with hb
    injection hb with hb
    subst hb;exact(ADG h1).trans hm
  rw[hc];exact h8
 ·unfold Ge
  grind
 ·rw[<-h7.len];exact h3
 exact λy hy=>h4 y<|(h7.mem).1 hy
theorem O3 {S:Type} {body:S->Option (S⊕List α)} (a:List α->Int->S) (g:Nat->α->α) (l0:List α) (h1:∀(i:Nat) (l:List α) x,l.length=l0.length->l[i]?=some x->l0[i]?=some x->body (a l (i:Nat))=some (.inl (a (l.set i (g i x)) ((i+1:Nat):Int)))) (h2:∀l:List α,l.length=l0.length->body (a l (l0.length:Nat))=some (.inr l)):Al body (a l0 0)=some (l0.mapIdx g):=by
 obtain⟨b,h3,h4⟩:=AG (body:=body) a l0.length (λi l=>l.length=l0.length/\∀j,l[j]?=if j<i then(l0[j]?).map (g j)else l0[j]?) (λb=>b=l0.mapIdx g)
  (λl i hi hs=>by
   obtain⟨hl,hs⟩:=hs;have c:l0[i]?=some l0[i]:=Ab hi;have hx:l[i]?=some l0[i]:=by grind
   refine .inl ⟨_,h1 i l _ hl hx c,by grind,λj=>?_⟩;by_cases e:i=j
   ·grind
   grind)
  (λl hs=>⟨l,h2 l hs.1,by
   apply BN
   grind⟩) (s:=l0) ⟨rfl,λj=>by rfl⟩
 rw[h3,h4]
abbrev Ks:=List Bq
def dk:Bq:=Bq.mk true []
def B8 (K:Ks) (i:Int):Bq:=(gi K i).getD dk
def MS (k:Bq) (j:Nat):Int:=(k.Kids[j]?).getD 0
def QW (K:Ks) (i:Nat) (leaf:Bool) (n:Int):Bool:=bif leaf then decide (0<=n)else(n== -1||(decide (0<=n/\n<=(i:Int)-1)&&(B8 K n).Leaf))
def CL (K:Ks):Bool:=K.zipIdx.all λz=>z.1.Kids.length==4&&z.1.Kids.all (QW K z.2 z.1.Leaf)
def D4 (K:Ks) (r:Int):Bool:=r== -1||(decide (0<=r/\r<(K.length:Int))&&!(B8 K r).Leaf)
def RR (K:Ks) (root:Int) (s:Nat):Int:=if root<0 then 0 else if MS (B8 K root) (s/4)<0 then 0 else MS (B8 K<|MS (B8 K root)<|s/4)<|s %4
def ED (K:Ks) (root:Int):List Int:=(List.range 16).map<|RR K root
variable {K X:Ks}
theorem O4 (h:i<K.length):B8 K (i:Int)=K[i]:=by
 unfold B8;rw[Au,Ab h];rfl
theorem Ic {i:Int} (h0:0<=i) (h:i<(K.length:Int)):gi K i=some (B8 K i):=by
 unfold B8;rw[Lm h0 h];rfl
theorem Dk (x a b:Int):BA x a b=some (decide (a<=x/\x<=b)):=by
 rw[RM];simp
theorem GD:CL K=true↔∀i:Nat,i<K.length->(B8 K (i:Int)).Kids.length=4/\∀n∈(B8 K (i:Int)).Kids,QW K i (B8 K (i:Int)).Leaf n=true:=by
 unfold CL;rw[XN];constructor
 ·intro h i hi;have:=h (K[i],i) (by grind);rw[O4 hi]
  grind
 intro h z hz;rw[List.mem_zipIdx_iff_getElem?]at hz;obtain⟨a,hz⟩:=Ae.1 hz;have:=h z.2 a;rw[O4 a,hz]at this
 grind
theorem KP (a:Arena) (ha:a.Knots.length<=1048576):GT a=some (CL a.Knots):=by
 unfold GT;have h:=bJ (body:=λs:Int=>Eb a s) a.Knots (λi k=>k.Kids.length==4&&k.Kids.all (QW a.Knots i k.Leaf)) (.inr false) (.inl ()) (by omega)
  (λi k hk=>by
   have hi:=(Ae.1 hk).1;simp only[Eb,DH hi,Au,hk,Aa];by_cases h4:k.Kids.length=4
   ·have e1:(ln k.Kids !=4)=false:=by simp[ln,h4]
    have e2:(k.Kids.length==4)=true:=by simp[h4]
    simp only[e1,Ad,e2,WR];have q:=bJ (body:=λs:Int=>EC a (i:Int) k s) k.Kids (λ_ n=>QW a.Knots i k.Leaf n) (.inr<|.inr<|.inr false) (.inl ()) (by omega)
     (λj n hn=>by
      have hj:=(Ae.1 hn).1;simp only[EC];rw[cT,Au,hn];simp only[Aa,QW]
      cases hl:k.Leaf with
      |true=>
       simp only[Ai,An,Ad];by_cases h0:n<0
       ·grind
       rw[Af h0,Ac (by omega:0<=n)];simp only[Ad,Aa,Ai];rw[ad1]
      |false=>
       simp only[Ad,Ck,Ai];by_cases h1:n= -1
       ·subst h1;simp only[bne_self_eq_false,Ad,Aa,BEq.rfl,Bool.true_or,Ai];rw[ad1]
       have e3:(n != -1)=true:=by simp[h1]
       have e4:(n== -1)=false:=by simp[h1]
       rw[e3,e4];simp only[Ai,oD];rw[Cp,Dk];simp only[Aa];by_cases h2:0<=n/\n<=(i:Int)-1
       ·rw[Ac h2];simp only[An,Ad];rw[Ic h2.1<|by omega];simp only[Aa,WR]
        cases(B8 a.Knots n).Leaf with
        |true=>simp only[An,Ad,Ai];rw[ad1]
        |false=>rfl
       grind)
     (by simp only[EC];rw[cF])
    rw[q];have hz:(k.Kids.zipIdx.all λz=>QW a.Knots i k.Leaf z.1)=k.Kids.all (QW a.Knots i k.Leaf):=by
     rw[show(λz:Int×Nat=>QW a.Knots i k.Leaf z.1)=(QW a.Knots i k.Leaf)∘Prod.fst from rfl,<-List.all_map];simp
    rw[Aa,hz]
    cases k.Kids.all (QW a.Knots i k.Leaf)with
    |true=>simp only[Ai,Cq];rw[ad1]
    |false=>rfl
   have e1:(ln k.Kids !=4)=true:=by simp[ln];omega
   grind)
  (by simp only[Eb,Dy])
 rw[h];unfold CL
 grind
theorem N2 (a:Arena) (ha:a.Knots.length<=1048576) (r:Int):HJ a r=some (D4 a.Knots r):=by
 unfold HJ D4
 cases hr:(r== -1)with
 |true=>rfl
 |false=>
  rw[Bj,Cp,Dk];by_cases h:0<=r/\r<(a.Knots.length:Int)
  ·rw[Ac h,Ac (by omega:0<=r/\r<=(a.Knots.length:Int)-1)];rw[Ic h.1 h.2];rfl
  grind
theorem BY (h:D4 K r=true):r= -1\/(0<=r/\r<(K.length:Int)/\(B8 K r).Leaf=false):=by
 unfold D4 at h
 grind
theorem FB (hK:CL K=true) (h0:0<=r) (h1:r<(K.length:Int)):(B8 K r).Kids.length=4/\∀j,j<4->(B8 K r).Kids[j]?=some (MS (B8 K r) j)/\QW K r.toNat (B8 K r).Leaf (MS (B8 K r) j)=true:=by
 have:=GD.1 hK r.toNat (by omega);rw[show((r.toNat:Nat):Int)=r by omega]at this;refine⟨this.1,λj hj=>?_⟩;have e:(B8 K r).Kids[j]?=some (MS (B8 K r) j):=by unfold MS;grind
 grind
theorem Gu (hK:CL K=true) (h0:0<=r) (h1:r<(K.length:Int)) (hl:(B8 K r).Leaf=false) (hj:j<4):MS (B8 K r) j= -1\/(0<=MS (B8 K r) j/\MS (B8 K r) j<r/\(B8 K (MS (B8 K r) j)).Leaf=true):=by
 have:=((FB hK h0 h1).2 j hj).2;rw[hl]at this;simp only[QW,Ad,CT,CG,Ag,A6]at this
 grind
theorem ABY (hK:CL K=true) (h0:0<=r) (h1:r<(K.length:Int)) (hl:(B8 K r).Leaf=true) (hj:j<4):0<=MS (B8 K r) j:=by
 have:=((FB hK h0 h1).2 j hj).2;rw[hl]at this;simpa[QW]using this
theorem qu4 {s:Nat} (h:s<16):qu (s:Int) 4=((s/4:Nat):Int):=by
 unfold qu;rw[show Int.tdiv (s:Int) 4=((s/4:Nat):Int) by rfl];exact OH (by omega)<|by omega
theorem AAR {s:Nat}:Int.tmod (s:Int) 4=((s %4:Nat):Int):=by rfl
theorem Yf {s:Nat} (a:Arena) (hK:CL a.Knots=true) (hr:D4 a.Knots r=true) (hs:s<16):Oq a r (s:Int)=some (RR a.Knots r s):=by
 unfold Oq RR
 rcases BY hr with rfl|⟨h0,h1,hl⟩
 ·rfl
 rw[Af (by omega:¬r<0),AM (by omega),Ad,Ic h0 h1];rw[Aa,qu4 hs,Au,((FB hK h0 h1).2 (s/4)<|by omega).1];simp only[Aa]
 rcases Gu hK h0 h1 hl (show s/4<4 by omega)with e|⟨e1,e2,e3⟩
 ·rw[e];rfl
 rw[Af (by omega),AM (by omega),Ad,Ic e1<|by omega];rw[Aa,AAR,Au,((FB hK e1<|by omega).2 (s %4)<|by omega).1];rfl
theorem aK {s:Nat} (a:Arena) (ha:a.Knots.length<=1048576) (hK:CL a.Knots=true) (hr:D4 a.Knots r=true) (hs:s<16):QD a r (s:Int)=some (RR a.Knots r s):=by
 unfold QD;rw[KP a ha,N2 a ha,Dk,hK,hr];simp only[Aa,An,Ad];rw[Ac (by omega:0<=(s:Int)/\(s:Int)<=15)];rw[Yf a hK hr hs]
 try rfl
theorem Ow (a:Arena) (ha:a.Knots.length<=1048576) (hK:CL a.Knots=true) (hr:D4 a.Knots r=true):JS a r=some (ED a.Knots r):=by
 unfold JS;obtain⟨b,h1,h2⟩:=AG (body:=λs:List Int×Int=>LU a r s.1 s.2) (λ(o:List Int) i=>(o,i)) 16 (λi o=>o=(List.range i).map (RR a.Knots r)) (λb=>b=ED a.Knots r)
  (λo i hi ho=>by
   refine .inl ⟨_,?_,rfl⟩;simp only[LU]
   rw[cT,aK a ha hK hr hi,Aa,Bk (by rw[ho];simp;omega),Aa,ad1,ho,Ek,BT,List.map_singleton])
  (λo ho=>⟨_,by rfl,ho⟩) (s:=[]) rfl
 rw[h1,h2];rfl
theorem Mj {by_:Nat} (h:l.length*by_<=140737488355328):ap by_ [] l=some l:=by
 rw[Bk (by simpa using h),A3]
def ACr (K:Ks):Prop:=K.length<=1048576/\∀k∈K,k.Kids.length<=1048576
theorem Lp (hK:CL K=true) (h:K.length<=1048576):ACr K:=by
 refine⟨h,λk hk=>?_⟩;obtain⟨i,hi,rfl⟩:=A4 hk;have:=(GD.1 hK i hi).1;rw[O4 hi]at this;omega
theorem VV (a:Arena) (h:ACr a.Knots):NP a=some a:=by
 unfold NP;have h1:=SD (body:=λs:Int×List Bq=>KF a s.1 s.2) a.Knots (λk=>k)
  (λi k b hk ho=>by
   have hi:=(Ae.1 hk).1;have hm:=h.2 k<|Ar hk;have:=h.1;simp only[KF,DH hi,Au,hk,Aa]
   rw[Mj (by omega),Aa,Bk (by simp;omega),Aa,ad1])
  (λb=>by simp only[KF,Dy])
 rw[h1];simp
theorem Gp (s:Store) (h:ACr s.Arena.Knots) (hv:s.Vols.length<=1048576):Ee s=some s:=by
 unfold Ee;rw[Mj (by omega),VV _ h];rfl
def PX (K:Ks) (r:Int) (s:Nat) (n:Int):List Int:=(if r<0 then [0,0,0,0]else if MS (B8 K r) (s/4)<0 then [0,0,0,0]else(B8 K<|MS (B8 K r)<|s/4).Kids).set (s %4) n
def UO (K:Ks) (r:Int) (s:Nat):List Int:=(if r<0 then [-1,-1,-1,-1]else(B8 K r).Kids).set (s/4) (K.length:Int)
def Kc (K:Ks) (r:Int) (s:Nat) (n:Int):Ks:=K++ [Bq.mk true<|PX K r s n,Bq.mk false<|UO K r s]
theorem mk4:mk 8 (0:Int) 4=some [0,0,0,0]:=by rfl
theorem qW {k:Bq} (h:j<k.Kids.length):gi k.Kids (j:Int)=some (MS k j):=by
 unfold MS;rw[Au,Ab h];rfl
theorem aG {s:Nat} (a:Arena) (ha:a.Knots.length<=1048000) (hK:CL a.Knots=true) (hr:D4 a.Knots r=true) (hs:s<16) (hn:0<=n):
  Zk a r (s:Int) n=some (Arena.mk (Kc a.Knots r s n),(a.Knots.length:Int)+1):=by
 unfold Zk;rw[VV _ (Lp hK<|by omega),KP a (by omega),N2 a (by omega),Dk,hK,hr];rw[Ac (by omega:0<=(s:Int)/\(s:Int)<=15),Af (by omega:¬n<0)];rw[mk4];simp only[Aa];have fin:∀(lf tp:List Int),lf.length=4->tp.length=4->Kc a.Knots r s n=a.Knots++ [Bq.mk true<|lf.set (s %4) n,Bq.mk false<|tp.set (s/4) (a.Knots.length:Int)]->
   ((gi lf<|Int.tmod (s:Int) 4).bind λx4=>(gi tp<|qu (s:Int) 4).bind λx5=>(ap 32 a.Knots [Bq.mk true<|si lf (Int.tmod (s:Int) 4) n,Bq.mk false<|si tp (qu (s:Int) 4)<|ln a.Knots]).bind λq4=>some (Arena.mk q4,sb (ln q4) 1))=some (Arena.mk<|Kc a.Knots r s n,(a.Knots.length:Int)+1):=by
  intro lf tp h1 h2 h3;rw[qu4 hs,AAR,Au,Au,Ab (by omega),Ab<|by omega];rw[Bk (by simp;omega),D1,D1,Bj,<-h3];simp only[Aa];rw[Bj,h3,Ak,Cp (by simp;omega) (by simp;omega)]
  grind
 rcases BY hr with rfl|⟨h0,h1,hl⟩
 ·rw[Af (by omega:¬(-1:Int)>=0)];exact fin _ _ rfl rfl rfl
 rw[cT,Ic h0 h1];have h4:=(FB hK h0 h1).1;simp only[Aa];rw[Mj<|by omega];simp only[Aa];rw[qu4 hs,qW (by omega:s/4<(B8 a.Knots r).Kids.length)];simp only[Aa];rw[<-qu4 hs]
 rcases Gu hK h0 h1 hl (show s/4<4 by omega)with e|⟨e1,e2,e3⟩
 ·rw[Af (by omega:¬MS (B8 a.Knots r) (s/4)>=0)];exact fin _ _ rfl h4 (by unfold Kc PX UO;simp only[AM (show¬r<0 by omega),AH<|show MS (B8 a.Knots r) (s/4)<0 by omega])
 rw[cT,Ic e1<|by omega];have h5:=(FB hK e1<|by omega).1;simp only[Aa];rw[Mj<|by omega];exact fin _ _ h5 h4 (by unfold Kc PX UO;grind)
def OJ (K:Ks) (r:Int) (i:Nat):Bool:=decide (0<=r)&&(decide (r=(i:Int))||(B8 K r).Kids.any λn=>decide<|n=(i:Int))
theorem mB (n:Nat) (f:Nat->α) (g:Nat->α->α):((List.range n).map f).mapIdx g=(List.range n).map λi=>g i (f i):=by
 apply BN
 grind
theorem PQ (n:Nat) (f:Nat->α) (i:Nat) (x:α) (g:Nat->α) (h:∀j,j<n->g j=if j=i then x else f j):((List.range n).map f).set i x=(List.range n).map g:=by
 apply BN
 grind
theorem HM {n:Nat} {f:Nat->α} (h:i<n):((List.range n).map f)[i]?=some (f i):=by grind
theorem VG {l:List Int} {m:Nat} (h:l[m]?=some x) (p:Int->Bool):(l.take (m+1)).any p=((l.take m).any p||p x):=by
 rw[DQ,h,List.any_append];simp
theorem oZ (a:Arena) (ha:a.Knots.length<=1048576) (hK:CL a.Knots=true) (hr:D4 a.Knots r=true):VU a r=some ((List.range a.Knots.length).map (OJ a.Knots r)):=by
 unfold VU;rw[Bj,bG (by omega)<|by omega];simp only[Aa]
 rcases BY hr with rfl|⟨h0,h1,hl⟩
 ·simp only[show decide ((-1:Int)<0)=true from rfl,Ai];congr 1;rw[show(OJ a.Knots<|-1)=λ_=>false from rfl,Nu,DR]
 rw[cF];obtain⟨m,rfl⟩:∃m:Nat,r=(m:Int):=⟨r.toNat,by omega⟩;rw[Au,List.getElem?_replicate,AH<|by omega];rw[D1];obtain⟨h4,hk⟩:=FB hK h0 h1;obtain⟨b,q1,q2⟩:=AG (body:=λs:List Bool×Int=>MA a (m:Int) s.1 s.2) (λ(o:List Bool) i=>(o,i)) 4
  (λi o=>o=(List.range a.Knots.length).map λ(j:Nat)=>decide ((m:Int)=(j:Int))||((B8 a.Knots (m:Int)).Kids.take i).any λn=>decide<|n=(j:Int))
  (λb=>b=(List.range a.Knots.length).map (OJ a.Knots (m:Int)))
  (λo i hi ho=>by
   obtain⟨e,_⟩:=hk i hi;simp only[MA];rw[cT,Ic h0 h1];simp only[Aa];rw[Au,e];simp only[Aa]
   rcases Gu hK h0 h1 hl hi with e1|⟨e1,e2,e3⟩
   ·rw[e1,cF,ad1];refine .inl ⟨o,rfl,?_⟩;rw[ho];apply CR;intro j hj;rw[VG e,e1,Af (by omega:¬(-1:Int)=(j:Int)),Bool.or_false]
   obtain⟨c,hc⟩:∃c:Nat,MS (B8 a.Knots (m:Int)) i=(c:Int):=⟨(MS (B8 a.Knots (m:Int)) i).toNat,by omega⟩;rw[hc,cT];rw[ho,Au,HM<|by omega];rw[D1,ad1];refine .inl ⟨_,rfl,?_⟩;apply PQ;intro j hj;rw[VG e,hc]
   grind)
  (λo ho=>⟨_,by simp only[MA];rw[cF],by
   rw[ho];apply CR;intro j hj;rw[AK<|by omega]
   rfl⟩) (s:=(List.replicate a.Knots.length false).set m true) (by
   rw[<-DR (n:=a.Knots.length),<-Nu,DR];apply PQ
   grind)
 rw[q1,q2];rfl
def CD (K:Ks) (R:List Int) (i:Nat):Bool:=R.any λr=>OJ K r i
def eZ (K:Ks) (R:List Int) (i:Nat):Nat:=((List.range i).filter<|CD K R).length
def PE (K:Ks) (R:List Int) (n:Int):Int:=if 0<=n then(eZ K R n.toNat:Int)else n
def Zg (K:Ks) (R:List Int) (i:Nat):Bq:=Bq.mk (B8 K (i:Int)).Leaf<|bif(B8 K (i:Int)).Leaf then(B8 K (i:Int)).Kids else(B8 K (i:Int)).Kids.map<|PE K R
def Vy (K:Ks) (R:List Int):Ks:=((List.range K.length).filter<|CD K R).map<|Zg K R
theorem Jg (l:List α) (f:α->α):l.mapIdx (λ_ x=>f x)=l.map f:=by
 apply BN
 grind
theorem PH (hr:r∈R) (h0:0<=r):CD K R r.toNat=true:=by
 unfold CD;rw[Du];exact⟨r,hr,by unfold OJ;rw[Ac h0,Ac (by omega:r=(r.toNat:Int))];rfl⟩
theorem ZI (hK:CL K=true) (hR:∀r∈R,D4 K r=true) (hu:CD K R i=true) (hl:(B8 K (i:Int)).Leaf=false):(i:Int)∈R:=by
 unfold CD at hu;rw[Du]at hu;obtain⟨r,hr,h⟩:=hu;unfold OJ at h;simp only[Ag,CT,A6,Du]at h;obtain⟨h0,h⟩:=h
 rcases h with h|⟨n,hn,h⟩
 ·rw[<-h];exact hr
 rcases BY (hR r hr)with e|⟨_,h1,a⟩
 ·omega
 obtain⟨h4,hk⟩:=FB hK h0 h1;obtain⟨j,hj,b⟩:=A4 hn;have e:=(hk j<|by omega).1;rw[Ab hj,b]at e
 injection e with e
 rcases Gu hK h0 h1 a (show j<4 by omega)with k1|⟨_,_,k3⟩
 ·omega
 grind
theorem VA (hr:r∈R) (h0:0<=r) (hn:n∈(B8 K r).Kids) (h1:0<=n):CD K R n.toNat=true:=by
 unfold CD;rw[Du];refine⟨r,hr,?_⟩;unfold OJ
 grind
theorem AEj (i:Nat):eZ K R i<=i:=by
 have:=B7 (CD K R)<|List.range i;rw[DR]at this;exact this
theorem eK (a:Arena) (ha:a.Knots.length<=1048576) (R:List Int) (hc:R.length<=1048576) (hR:∀r∈R,D4 a.Knots r=true):Al (λs:Bool×Int=>FV a R s.1 s.2) (true,0)=some true:=by
 obtain⟨b,h1,h2⟩:=AG (body:=λs:Bool×Int=>FV a R s.1 s.2) (λ(o:Bool) i=>(o,i)) R.length (λ_ o=>o=true) (λb=>b=true)
  (λo i hi ho=>by
   have hx:=Ab hi;simp only[FV,I9,Ac hi,Ai,Aa,ho,Au,hx];rw[N2 a ha,hR _<|Aw hi,Aa,ad1]
   grind)
  (λo ho=>⟨o,by simp only[FV,I9,EP,HX,Ad,Aa],ho⟩) (s:=true) rfl
 grind
theorem kS (a:Arena) (ha:a.Knots.length<=1048576) (hK:CL a.Knots=true) (R:List Int) (hc:R.length<=1048576) (hR:∀r∈R,D4 a.Knots r=true):
  Al (λs:List Bool×Int=>FU a R s.1 s.2) (List.replicate a.Knots.length false,0)=some ((List.range a.Knots.length).map (CD a.Knots R)):=by
 obtain⟨b,h1,h2⟩:=AG (body:=λs:List Bool×Int=>FU a R s.1 s.2) (λ(o:List Bool) i=>(o,i)) R.length (λi o=>o=(List.range a.Knots.length).map λ(j:Nat)=>(R.take i).any λr=>OJ a.Knots r j) (λb=>b=(List.range a.Knots.length).map (CD a.Knots R))
  (λo i hi ho=>by
   have hx:=Ab hi;simp only[FU,DH hi,Aa,Au,hx];rw[oZ a ha hK<|hR _<|Aw hi];simp only[Aa];have q:=O3 (body:=λs:List Bool×Int=>H7 ((List.range a.Knots.length).map<|OJ a.Knots R[i]) s.1 s.2) (λl i=>(l,i)) (λk x=>x||OJ a.Knots R[i] k) o
    (λk l x hl c d=>by
     have hk:k<a.Knots.length:=by grind
     simp only[H7,I9];rw[Ac (by simpa using hk),Ai,Au,c];simp only[Aa]
     cases x with
     |true=>simp only[Ai,Bool.true_or];rw[D1,ad1]
     |false=>
      simp only[Ad,oD]
      rw[Au,HM hk,Aa,D1,ad1])
    (λl hl=>by simp only[H7,I9];grind)
   rw[q,Aa,ad1,ho,mB];refine .inl ⟨_,rfl,?_⟩;apply CR;intro j hj;rw[DQ,hx,List.any_append]
   simp)
  (λo ho=>⟨o,by simp only[FU,Dy],by rw[ho,AK<|by omega];rfl⟩) (s:=List.replicate a.Knots.length false) (by
   simp only[Lv,List.any_nil]
   rw[Nu,DR])
 rw[<-h2];exact h1
def Vg (K:Ks) (R:List Int) (i:Nat):List Int:=(List.range K.length).map λ(j:Nat)=>if j<i/\CD K R j=true then(eZ K R j:Int)else 0
theorem eM (a:Arena) (ha:a.Knots.length<=1048576) (hK:CL a.Knots=true) (R:List Int) (hR:∀r∈R,D4 a.Knots r=true):
  Al (λs:List Int×Int×List Bq=>FT a ((List.range a.Knots.length).map (CD a.Knots R)) s.1 s.2.1 s.2.2) (List.replicate a.Knots.length 0,0,[])=some (Vg a.Knots R a.Knots.length,Vy a.Knots R):=by
 obtain⟨b,h1,h2⟩:=AG (body:=λs:List Int×Int×List Bq=>FT a ((List.range a.Knots.length).map<|CD a.Knots R) s.1 s.2.1 s.2.2) (λ(o:List Int×List Bq) i=>(o.1,i,o.2)) a.Knots.length
  (λi o=>o=(Vg a.Knots R i,((List.range i).filter<|CD a.Knots R).map<|Zg a.Knots R)) (λb=>b=(Vg a.Knots R a.Knots.length,Vy a.Knots R))
  (λo i hi ho=>by
   subst ho;simp only[FT,DH hi];rw[Au,HM hi];simp only[Aa]
   cases hu:CD a.Knots R i with
   |false=>
    simp only[Ck,Ai];rw[ad1];refine .inl ⟨(Vg a.Knots R i,((List.range i).filter<|CD a.Knots R).map<|Zg a.Knots R),rfl,?_⟩;congr 1
    ·unfold Vg
     grind
    rw[Ek,AS,CX (by rw[hu];simp)];simp
   |true=>
    simp only[An,Ad];have h0:(0:Int)<=(i:Int):=by omega
    have d:(i:Int)<(a.Knots.length:Int):=by omega
    rw[Ic h0 d];obtain⟨h4,hk⟩:=FB hK h0 d;simp only[Aa];rw[Mj<|by omega];simp only[Aa];have inner:Al (λs:Int×List Int=>FR (Vg a.Knots R i) ((B8 a.Knots (i:Int)).Leaf,(B8 a.Knots (i:Int)).Kids) s.1 s.2) (0,(B8 a.Knots (i:Int)).Kids)=some (Zg a.Knots R i).Kids:=by
     unfold Zg
     cases hl:(B8 a.Knots (i:Int)).Leaf with
     |true=>rw[Ax];rfl
     |false=>
      have q:=O3 (body:=λs:Int×List Int=>FR (Vg a.Knots R i) (false,(B8 a.Knots (i:Int)).Kids) s.1 s.2) (λl k=>(k,l)) (λ_ x=>PE a.Knots R x) (B8 a.Knots (i:Int)).Kids
       (λk l x h j m=>by
        have n:k<4:=by grind
        have ex:x=MS (B8 a.Knots (i:Int)) k:=by grind
        simp only[FR];rw[Ac (by omega:(k:Int)<4)];simp only[Ai,Aa,Ck];rw[Au,j];simp only[Aa]
        rcases Gu hK h0 d hl n with e|⟨e1,e2,e3⟩
        ·rw[cF,ad1];have:PE a.Knots R x=x:=by unfold PE;omega
         rw[this,show l.set k x=l from by
          apply BN
          grind]
        rw[cT];obtain⟨c,hc⟩:∃c:Nat,x=(c:Int):=⟨x.toNat,by omega⟩;have p:x∈(B8 a.Knots (i:Int)).Kids:=Ar m;have f:=VA (ZI hK hR hu hl) h0 p (by omega);rw[hc]at f;rw[hc,Au];unfold Vg;rw[HM (by omega),Aa,AH ⟨by omega,f⟩,D1,ad1]
        rfl)
       (λl h=>by
        simp only[FR]
        grind)
      rw[Jg]at q;exact q
    rw[inner];simp only[Aa];have t:gi (Vg a.Knots R i) (i:Int)=some 0:=by
     unfold Vg;rw[Au,HM hi,AM<|by omega]
    rw[t];simp only[Aa];have u:=AEj (K:=a.Knots) (R:=R) i;have g:(((List.range i).filter<|CD a.Knots R).map<|Zg a.Knots R).length=eZ a.Knots R i:=by rw[Bs];rfl
    rw[Bk (by rw[g];simp;omega),Aa,ad1,Bj,g,D1];refine .inl ⟨(_,_),rfl,?_⟩;congr 1
    ·unfold Vg;apply PQ
     grind
    rw[Ek,AS,CW hu,Nv,BT]
    rfl)
  (λo ho=>⟨o,by simp only[FT,Dy],ho⟩) (s:=(List.replicate a.Knots.length 0,[])) (by
   unfold Vg;simp only[Nat.not_lt_zero,false_and,Ke];rw[Nu,DR]
   rfl)
 rw[<-h2];exact h1
theorem tI (a:Arena) (ha:a.Knots.length<=1048576) (R:List Int) (hc:R.length<=1048576) (hR:∀r∈R,D4 a.Knots r=true):
  Al (λs:List Int×Int=>FQ (Vg a.Knots R a.Knots.length,Vy a.Knots R) s.1 s.2) (R,0)=some (R.map (PE a.Knots R)):=by
 have q:=O3 (body:=λs:List Int×Int=>FQ (Vg a.Knots R a.Knots.length,Vy a.Knots R) s.1 s.2) (λl k=>(l,k)) (λ_ x=>PE a.Knots R x) R
  (λk l x b d f=>by
   have i:=(Ae.1 d).1;simp only[FQ,DH i,Au,d,Aa]
   rcases BY (hR x<|Ar f)with e|⟨e1,e2,e3⟩
   ·rw[cF,ad1];have:PE a.Knots R x=x:=by unfold PE;omega
    rw[this,show l.set k x=l from by
     apply BN
     grind]
   rw[cT];obtain⟨c,g⟩:∃c:Nat,x=(c:Int):=⟨x.toNat,by omega⟩;have h:=PH (K:=a.Knots) (Ar f) e1;rw[g]at h;rw[g,Au];unfold Vg;rw[HM (by omega),Aa,AH ⟨by omega,h⟩,D1,ad1]
   rfl)
  (λl b=>by simp only[FQ,Bj,b];rw[cF])
 rw[Jg]at q;exact q
theorem aE (a:Arena) (ha:a.Knots.length<=1048576) (hK:CL a.Knots=true) (R:List Int) (hc:R.length<=1048576) (hR:∀r∈R,D4 a.Knots r=true):
  KH a R=some (Arena.mk (Vy a.Knots R),R.map (PE a.Knots R)):=by
 unfold KH;rw[Mj (by omega),KP a ha,hK];simp only[Aa];rw[eK a ha R hc hR];rw[Bj,bG (by omega)<|by omega];simp only[Aa];rw[kS a ha hK R hc hR];rw[bG (by omega)<|by omega];simp only[Aa];rw[eM a ha hK R hR];simp only[Aa];rw[tI a ha R hc hR];rfl
theorem cN (p:Nat->Bool) (hp:p i=true):∀{n:Nat},i<n->((List.range n).filter p)[((List.range i).filter p).length]?=some i
 |0,h=>by omega
 |n+1,h=>by
  rw[Ek,AS];by_cases e:i=n
  ·grind
  have h2:=cN p hp<|show i<n by omega
  grind
theorem rB {n:Nat} (p:Nat->Bool) (hp:p i=true) (h:i<n):((List.range i).filter p).length<((List.range n).filter p).length:=(Ae.1<|cN p hp h).1
theorem rA (p:Nat->Bool):∀{n j:Nat},j<((List.range n).filter p).length->∃i,i<n/\p i=true/\((List.range i).filter p).length=j
 |0,j,h=>by simp at h
 |n+1,j,h=>by
  rw[Ek,AS,Ak]at h;by_cases e:j<((List.range n).filter p).length
  ·obtain⟨i,h1,h2,h3⟩:=rA p e
   grind
  grind
theorem kD:(Vy K R).length=eZ K R K.length:=by unfold Vy eZ;rw[Bs]
theorem Tt (hu:CD K R i=true) (hi:i<K.length):B8 (Vy K R) (eZ K R i:Nat)=Zg K R i/\eZ K R i<(Vy K R).length:=by
 have h:=rB (CD K R) hu hi;have h2:eZ K R i<(Vy K R).length:=by rw[kD];exact h
 refine⟨?_,h2⟩;unfold B8;rw[Au];unfold Vy;rw[BX];have:=cN (CD K R) hu hi;rw[show eZ K R i=((List.range i).filter<|CD K R).length from rfl,this];rfl
theorem AAU (hj:j<(Vy K R).length):∃i,i<K.length/\CD K R i=true/\eZ K R i=j:=by
 rw[kD]at hj;exact rA (CD K R) hj
theorem AFF (hu:CD K R i=true) (h:i<j):eZ K R i<eZ K R j:=rB _ hu h
theorem ZQ (i:Nat):(Zg K R i).Leaf=(B8 K (i:Int)).Leaf:=rfl
theorem wC (hK:CL K=true) (hi:i<K.length):(Zg K R i).Kids.length=4:=by
 have:=(GD.1 hK i hi).1;unfold Zg
 grind
theorem wD (hl:(B8 K (i:Int)).Leaf=false) (hj:j<(B8 K (i:Int)).Kids.length):MS (Zg K R i) j=PE K R (MS (B8 K (i:Int)) j):=by
 unfold MS Zg
 grind
theorem U6 (hl:(B8 K (i:Int)).Leaf=true):(Zg K R i).Kids=(B8 K (i:Int)).Kids:=by
 unfold Zg;rw[hl];rfl
theorem Zl (h:n<0):PE K R n=n:=by unfold PE;omega
theorem TA (n:Nat):PE K R (n:Int)=(eZ K R n:Int):=by rfl
theorem AEI (hK:CL K=true) (hR:∀r∈R,D4 K r=true):CL (Vy K R)=true:=by
 rw[GD];intro j hj;obtain⟨i,hi,hu,rfl⟩:=AAU hj;rw[(Tt hu hi).1];refine⟨wC hK hi,λn hn=>?_⟩;have h0:(0:Int)<=(i:Int):=by omega
 have h1:(i:Int)<(K.length:Int):=by omega
 obtain⟨h4,hk⟩:=FB hK h0 h1;rw[ZQ]
 cases hl:(B8 K (i:Int)).Leaf with
 |true=>
  rw[U6 hl]at hn;have:=(GD.1 hK i hi).2 n hn;rw[hl]at this;simpa[QW]using this
 |false=>
  obtain⟨m,hm,b⟩:=A4 hn;rw[wC hK hi]at hm;have e:n=PE K R (MS (B8 K (i:Int)) m):=by
   rw[<-wD hl (by omega),<-b];unfold MS
   grind
  rcases Gu hK h0 h1 hl hm with k1|⟨k1,k2,k3⟩
  ·rw[k1,Zl<|by omega]at e;subst e;rfl
  obtain⟨c,hc⟩:∃c:Nat,MS (B8 K (i:Int)) m=(c:Int):=⟨_,(AQ k1).symm⟩;rw[hc]at e k2 k3;rw[TA]at e;have a:=VA (ZI hK hR hu hl) h0 (Ar (hk m hm).1) (by omega);rw[hc]at a;have d:c<K.length:=by omega
  have f:eZ K R c<eZ K R i:=AFF (by simpa using a) (by omega);subst e;simp only[QW,Ad,CT,CG,Ag,A6];refine .inr ⟨by omega,?_⟩;rw[(Tt (by simpa using a) d).1,ZQ];exact k3
theorem ABj (hR:∀r∈R,D4 K r=true) (hr:r∈R):D4 (Vy K R) (PE K R r)=true:=by
 rcases BY (hR r hr)with e|⟨h0,h1,hl⟩
 ·rw[e,Zl<|by omega];rfl
 obtain⟨c,rfl⟩:∃c:Nat,r=(c:Int):=⟨_,(AQ h0).symm⟩;have a:=PH (K:=K) hr h0;rw[AU]at a;obtain⟨g1,g2⟩:=Tt a (by omega);rw[TA];unfold D4;rw[Ac (by omega),g1,ZQ,hl];simp
theorem wP (hK:CL K=true) (hR:∀r∈R,D4 K r=true) (hr:r∈R):ED (Vy K R) (PE K R r)=ED K r:=by
 unfold ED;apply CR;intro s hs;rw[Lw]at hs;unfold RR
 rcases BY (hR r hr)with e|⟨h0,h1,hl⟩
 ·rw[e,Zl (by omega),AH (by omega),AH<|by omega]
 obtain⟨c,rfl⟩:∃c:Nat,r=(c:Int):=⟨_,(AQ h0).symm⟩;have a:=PH (K:=K) hr h0;rw[AU]at a;obtain⟨g1,g2⟩:=Tt a (by omega);obtain⟨h4,hk⟩:=FB hK h0 h1;rw[TA,g1,wD hl<|by omega];simp only[AM (show¬((eZ K R c:Nat):Int)<0 by omega),AM<|show¬((c:Nat):Int)<0 by omega]
 rcases Gu hK h0 h1 hl (show s/4<4 by omega)with k1|⟨k1,k2,k3⟩
 ·rw[k1,Zl<|by omega];rfl
 obtain⟨d,hd⟩:∃d:Nat,MS (B8 K (c:Int)) (s/4)=(d:Int):=⟨_,(AQ k1).symm⟩;have b:=VA hr h0 (Ar (hk (s/4)<|by omega).1) k1;rw[hd]at b k2 k3;rw[hd,TA];simp only[AM (show¬((eZ K R d:Nat):Int)<0 by omega),AM<|show¬((d:Nat):Int)<0 by omega];rw[(Tt (by simpa using b)<|by omega).1];unfold MS;rw[U6 k3]
theorem AC1 (hK:CL K=true) (hR:∀r∈R,D4 K r=true) (hj:j<(Vy K R).length):CD (Vy K R) (R.map (PE K R)) j=true:=by
 obtain⟨i,hi,hu,rfl⟩:=AAU hj;have hu':=hu;unfold CD at hu';rw[Du]at hu';obtain⟨r,hr,h⟩:=hu';unfold OJ at h;simp only[Ag,CT,A6,Du]at h;obtain⟨h0,h⟩:=h;unfold CD;rw[Du];refine⟨PE K R r,A5.2 ⟨r,hr,rfl⟩,?_⟩;obtain⟨c,rfl⟩:∃c:Nat,r=(c:Int):=⟨_,(AQ h0).symm⟩;rw[TA];unfold OJ;simp only[Ag,CT,A6,Du];refine⟨by omega,?_⟩
 rcases h with h|⟨n,hn,h⟩
 ·grind
 right
 rcases BY (hR _ hr)with e|⟨_,h1,hl⟩
 ·omega
 have a:=PH (K:=K) hr h0;rw[AU]at a;rw[(Tt a<|by omega).1];refine⟨(eZ K R i:Int),?_,rfl⟩;unfold Zg;rw[hl];simp only[Ad,A5];exact⟨n,hn,by rw[h,TA]⟩
theorem O5 {i:Int} (h0:0<=i) (h:i<(K.length:Int)):B8 (K++X) i=B8 K i:=by
 obtain⟨c,rfl⟩:∃c:Nat,i=(c:Int):=⟨_,(AQ h0).symm⟩;unfold B8;rw[Au,Au,Ch<|by omega]
theorem ABg (h:D4 K r=true):D4 (K++X) r=true:=by
 rcases BY h with e|⟨h0,h1,hl⟩
 ·rw[e];rfl
 unfold D4;rw[O5 h0 h1,hl,Ac<|by grind];simp
theorem wL (hK:CL K=true) (h:D4 K r=true):ED (K++X) r=ED K r:=by
 unfold ED;apply CR;intro s hs;rw[Lw]at hs;unfold RR
 rcases BY h with e|⟨h0,h1,hl⟩
 ·rw[e];rfl
 rw[O5 h0 h1]
 rcases Gu hK h0 h1 hl (show s/4<4 by omega)with k1|⟨k1,k2,k3⟩
 ·rw[k1];rfl
 rw[O5 k1<|by omega]
theorem iW {s:Nat} (hK:CL K=true) (hr:D4 K r=true) (hs:s<16) (n:Int):(PX K r s n).length=4:=by
 unfold PX;rw[Ki]
 rcases BY hr with e|⟨h0,h1,hl⟩
 ·grind
 rw[AM<|by omega]
 rcases Gu hK h0 h1 hl (show s/4<4 by omega)with k1|⟨k1,k2,k3⟩
 ·grind
 rw[AM<|by omega];exact(FB hK k1<|by omega).1
theorem oJ (hK:CL K=true) (hr:D4 K r=true) (s:Nat):(UO K r s).length=4:=by
 unfold UO;rw[Ki]
 rcases BY hr with e|⟨h0,h1,hl⟩
 ·grind
 rw[AM<|by omega];exact(FB hK h0 h1).1
theorem Xx {s:Nat}:B8 (Kc K r s n) (K.length:Int)=Bq.mk true (PX K r s n):=by
 unfold B8 Kc;rw[Au,B6<|Az _,Nat.sub_self];rfl
theorem Xw {s:Nat}:B8 (Kc K r s n) ((K.length:Int)+1)=Bq.mk false (UO K r s):=by
 unfold B8 Kc;rw[show(K.length:Int)+1=((K.length+1:Nat):Int)from rfl,Au,B6 (by omega),show K.length+1-K.length=1 by omega];rfl
theorem AER {s:Nat} (hK:CL K=true) (hr:D4 K r=true) (hs:s<16) (hn:0<=n):CL (Kc K r s n)=true:=by
 rw[GD];intro j hj;have a:(Kc K r s n).length=K.length+2:=by unfold Kc;simp
 rw[a]at hj;by_cases h:j<K.length
 ·have hk:B8 (Kc K r s n) (j:Int)=B8 K (j:Int):=O5 (by omega) (by omega);rw[hk];obtain⟨h4,h5⟩:=GD.1 hK j h;refine⟨h4,λm hm=>?_⟩;have:=h5 m hm
  cases hl:(B8 K (j:Int)).Leaf with
  |true=>rw[hl]at this;exact this
  |false=>
   rw[hl]at this;simp only[QW,Ad,CT,CG,Ag,A6]at this⊢
   rcases this with e|⟨e1,e2⟩
   ·exact .inl e
   refine .inr ⟨e1,?_⟩;rw[show B8 (Kc K r s n) m=B8 K m from O5 e1.1<|by omega];exact e2
 by_cases e:j=K.length
 ·subst e;rw[Xx];refine⟨iW hK hr hs n,λm hm=>?_⟩;simp only[QW,Ai,A6]
  rcases CI hm with hm|hm
  ·rcases BY hr with e|⟨h0,h1,hl⟩
   ·grind
   rw[AM<|by omega]at hm
   rcases Gu hK h0 h1 hl (show s/4<4 by omega)with k1|⟨k1,k2,k3⟩
   ·grind
   rw[AM<|by omega]at hm;have hq:=GD.1 hK (MS (B8 K r)<|s/4).toNat (by omega);rw[AQ k1,k3]at hq;have:=hq.2 m hm;simpa[QW]using this
  omega
 have:j=K.length+1:=by omega
 subst this;rw[show((K.length+1:Nat):Int)=(K.length:Int)+1 from rfl,Xw];refine⟨oJ hK hr s,λm hm=>?_⟩;simp only[QW,Ad,CT,CG,Ag,A6]
 rcases CI hm with hm|hm
 ·rcases BY hr with e|⟨h0,h1,hl⟩
  ·grind
  rw[AM<|by omega]at hm;obtain⟨q,hq,rfl⟩:=A4 hm;obtain⟨h4,hk⟩:=FB hK h0 h1;have e5:=(hk q<|by omega).1;rw[Ab hq]at e5
  injection e5 with e5
  rw[e5]
  rcases Gu hK h0 h1 hl (show q<4 by omega)with k1|⟨k1,k2,k3⟩
  ·exact .inl k1
  refine .inr ⟨by omega,?_⟩;rw[show B8 (Kc K r s n) (MS (B8 K r) q)=B8 K (MS (B8 K r) q)from O5 k1 (by omega)];exact k3
 refine .inr ⟨by omega,?_⟩;rw[hm,Xx]
theorem zI {s:Nat}:D4 (Kc K r s n) ((K.length:Int)+1)=true:=by
 unfold D4;rw[Xw,Ac (by unfold Kc;simp;omega)];simp
theorem wU {s:Nat} (hK:CL K=true) (hr:D4 K r=true) (hs:s<16):ED (Kc K r s n) ((K.length:Int)+1)=(ED K r).set s n:=by
 unfold ED;symm;apply PQ;intro t ht;unfold RR;rw[Xw];simp only[AM<|show¬((K.length:Int)+1)<0 by omega];have a:=oJ hK hr s;have b:=iW hK hr hs n;by_cases hq:t/4=s/4
 ·have e1:MS (Bq.mk false<|UO K r s) (t/4)=(K.length:Int):=by
   unfold MS UO;unfold UO at a
   grind
  rw[e1,AM (by omega),Xx];have e2:MS (Bq.mk true<|PX K r s n) (t %4)=if t %4=s %4 then n else(if r<0 then 0 else if MS (B8 K r) (s/4)<0 then 0 else MS (B8 K<|MS (B8 K r)<|s/4)<|t %4):=by
   unfold MS PX;unfold PX at b;rw[Gh];by_cases e:s %4=t %4
   ·grind
   by_cases c1:r<0
   ·grind
   unfold MS
   grind
  grind
 rw[AM<|show¬t=s by omega];have e1:MS (Bq.mk false<|UO K r s) (t/4)=if r<0 then-1 else MS (B8 K r) (t/4):=by
  unfold MS UO;rw[Gh,AM<|JI hq];by_cases c1:r<0
  ·rw[AH c1,AH c1];have:t/4<4:=by omega
   generalize t/4=q at this
   match q,this with
   |0,_=>rfl
   |1,_=>rfl
   |2,_=>rfl
   |3,_=>rfl
  grind
 rw[e1]
 rcases BY hr with e|⟨h0,h1,hl⟩
 ·rw[e];rfl
 simp only[AM<|show¬r<0 by omega]
 rcases Gu hK h0 h1 hl (show t/4<4 by omega)with k1|⟨k1,k2,k3⟩
 ·rw[k1];rfl
 rw[show B8 (Kc K r s n) (MS (B8 K r)<|t/4)=B8 K (MS (B8 K r)<|t/4)from O5 k1 (by omega)]
def Nh (n:Nat) (p:Nat->Bool):Nat:=((List.range n).filter p).length
theorem Me (n:Nat) (p:Nat->Bool):Nh (n+1) p=Nh n p+(if p n=true then 1 else 0):=by
 unfold Nh;rw[Ek,AS,Ak]
 grind
theorem Z3 (p q:Nat->Bool):∀n,Nh n (λj=>p j||q j)<=Nh n p+Nh n q
 |0=>by simp[Nh]
 |n+1=>by
  have:=Z3 p q n;rw[Me,Me,Me]
  grind
theorem cW (x:Int):∀n,Nh n (λj=>decide (x=(j:Int)))<=1/\(x>=(n:Int)->Nh n (λj=>decide (x=(j:Int)))=0)
 |0=>by simp[Nh]
 |n+1=>by
  obtain⟨h1,h2⟩:=cW x n;rw[Me]
  grind
theorem ACp (l:List Int) (n:Nat):Nh n (λj=>l.any λx=>decide (x=(j:Int)))<=l.length:=by
 induction l with
 |nil=>simp[Nh]
 |cons x l ih=>
  simp only[List.any_cons,AA];have:=Z3 (λj=>decide<|x=(j:Int)) (λj=>l.any λx=>decide<|x=(j:Int)) n;have:=(cW x n).1;omega
theorem ADO {n:Nat} {q:Nat->Bool} (h:∀j,j<n->p j=true->q j=true):Nh n p<=Nh n q:=by
 induction n with
 |zero=>simp[Nh]
 |succ n ih=>
  rw[Me,Me]
  grind
theorem rI {n:Nat} (h:∀j,j<n->p j=true):Nh n p=n:=by
 induction n with
 |zero=>rfl
 |succ n ih=>rw[Me,AH (h n<|by omega),ih λj hj=>h j<|by omega]
theorem ADI (hK:CL K=true) (hr:D4 K r=true) (n:Nat):Nh n (OJ K r)<=5:=by
 have h1:=Z3 (λj=>decide<|r=(j:Int)) (λj=>(B8 K r).Kids.any λn=>decide<|n=(j:Int)) n;have h2:=(cW r n).1;have h3:=ACp (B8 K r).Kids n
 have h4:Nh n (OJ K r)<=Nh n (λj=>decide (r=(j:Int))||(B8 K r).Kids.any λn=>decide<|n=(j:Int)):=ADO λj _ h=>by
  unfold OJ at h
  grind
 rcases BY hr with e|⟨h0,hl,_⟩
 ·have:Nh n (OJ K r)=Nh n (λ_=>false):=by rw[e];rfl
  rw[this];unfold Nh;rw[Bp.2<|by simp];simp
 have:=(FB hK h0 hl).1;omega
theorem ZJ (hK:CL K=true) (n:Nat):∀(R:List Int),(∀r∈R,D4 K r=true)->Nh n (CD K R)<=5*R.length
 |[],_=>by simp[Nh,CD]
 |r::R,h=>by
  have h1:=ZJ hK n R (λx hx=>h x<|by simp[hx]);have h2:=ADI hK (h r<|by simp) n;have h3:=Z3 (OJ K r) (CD K R) n;have h4:Nh n (CD K (r::R))=Nh n (λj=>OJ K r j||CD K R j):=rfl
  grind
theorem yX (hK:CL K=true) (hR:∀r∈R,D4 K r=true):(Vy K R).length<=5*R.length:=by
 rw[kD];exact ZJ hK _ R hR
def Bt (s:Store):List Int:=s.Vols.map Vol.Root
structure StoreR (s:Store):Prop where
 len:s.Vols.length<=3
 ar:CL s.Arena.Knots=true
 nx:1<=s.Next/\s.Next<=1000000000
 ids:∀v∈s.Vols,1<=v.Id/\v.Id<=9
 asc:(s.Vols.map Vol.Id).Pairwise (·<·)
 root:∀r∈Bt s,D4 s.Arena.Knots r=true
 lt:∀r∈Bt s,∀x∈ED s.Arena.Knots r,x<s.Next
 few:s.Arena.Knots.length<=1000
structure C3 (s:Store):Prop extends StoreR s where
 used:∀i,i<s.Arena.Knots.length->CD s.Arena.Knots (Bt s) i=true
theorem C3.small (h:C3 s):s.Arena.Knots.length<=15:=by
 have h1:=ZJ h.ar s.Arena.Knots.length (Bt s) h.root;rw[rI h.used]at h1;have:(Bt s).length=s.Vols.length:=by unfold Bt;rw[Bs]
 have:=h.len;omega
def AL (s:Store):List (Int×List Int):=s.Vols.map λv=>(v.Id,ED s.Arena.Knots v.Root)
def L8 (s:Store):Store:=Store.mk (s.Vols.map λv=>Vol.mk v.Id<|PE s.Arena.Knots (Bt s) v.Root) (Arena.mk<|Vy s.Arena.Knots<|Bt s) s.Next
theorem QK (s:Store):Bt (L8 s)=(Bt s).map (PE s.Arena.Knots (Bt s)):=by
 unfold Bt L8;simp only[FG];rfl
theorem wB (h:StoreR s):C3 (L8 s):=by
 have b:(Bt s).length=s.Vols.length:=by unfold Bt;rw[Bs]
 refine⟨⟨by unfold L8;simpa using h.len,AEI h.ar h.root,h.nx,?_,?_,?_,?_,?_⟩,?_⟩
 ·intro v hv;unfold L8 at hv;simp only[A5]at hv;obtain⟨w,hw,rfl⟩:=hv;exact h.ids w hw
 ·have:((L8 s).Vols.map Vol.Id)=s.Vols.map Vol.Id:=by unfold L8;simp
  rw[this];exact h.asc
 ·intro r hr;rw[QK]at hr;obtain⟨q,hq,rfl⟩:=A5.1 hr;exact ABj h.root hq
 ·intro r hr;rw[QK]at hr;obtain⟨q,hq,rfl⟩:=A5.1 hr;have:=wP h.ar h.root hq;intro x hx;have a:x∈ED s.Arena.Knots q:=by rw[<-this];exact hx
  exact h.lt q hq x a
 ·have:=yX h.ar h.root;have:=h.len;show(Vy s.Arena.Knots<|Bt s).length<=1000;omega
 intro i hi;rw[QK];exact AC1 h.ar h.root hi
theorem gK (h:StoreR s):AL (L8 s)=AL s:=by
 unfold AL;show(s.Vols.map λv=>Vol.mk v.Id<|PE s.Arena.Knots (Bt s) v.Root).map _=_;rw[FG];apply CR;intro v hv;have:=wP h.ar h.root<|show v.Root∈Bt s from A5.2 ⟨v,hv,rfl⟩;show(v.Id,ED (Vy s.Arena.Knots<|Bt s)<|PE s.Arena.Knots (Bt s) v.Root)=_;rw[this]
theorem U7 (s:Store) (hv:s.Vols.length<=1048576):Oo s=some (Bt s):=by
 unfold Oo;obtain⟨b,h1,h2⟩:=AG (body:=λq:List Int×Int=>Jz s q.1 q.2) (λ(o:List Int) i=>(o,i)) s.Vols.length (λi o=>o=(s.Vols.take i).map Vol.Root) (λb=>b=Bt s)
  (λo i hi ho=>by
   have hx:=Ab hi;simp only[Jz,DH hi,Au,hx,Aa];rw[Bk (by rw[ho];simp;omega),Aa,ad1]
   exact .inl ⟨_,rfl,by rw[ho,DQ,hx,BT];rfl⟩)
  (λo ho=>⟨o,by simp only[Jz,Dy],by rw[ho,AK<|Az _];rfl⟩) (s:=[]) rfl
 rw[h1,h2];rfl
theorem Jx (h:StoreR s):Hs s=some (L8 s):=by
 have hl:=h.len;have hf:=h.few;have c:(Bt s).length=s.Vols.length:=by unfold Bt;rw[Bs]
 unfold Hs;rw[U7 s<|by omega];simp only[Aa];rw[aE _ (by omega) h.ar _ (by omega) h.root];rw[Mj<|by omega];simp only[Aa];have q:=O3 (body:=λq:Int×List Vol=>Jy ((Bt s).map<|PE s.Arena.Knots<|Bt s,Vy s.Arena.Knots<|Bt s) q.1 q.2) (λl i=>(i,l)) (λ_ v=>Vol.mk v.Id<|PE s.Arena.Knots (Bt s) v.Root) s.Vols
  (λi l x a b d=>by
   have hi:=(Ae.1 b).1;simp only[Jy,DH hi];have:gi ((Bt s).map<|PE s.Arena.Knots<|Bt s) (i:Int)=some (PE s.Arena.Knots (Bt s) x.Root):=by
    rw[Au,BX];unfold Bt
    grind
   rw[this,Au,b];simp only[Aa]
   rw[D1,ad1])
  (λl a=>by simp only[Jy,Bj,a];rw[cF])
 rw[Jg]at q;rw[q];rfl
theorem ZO (h:C3 s):L8 s=s:=by
 have d:∀i,i<=s.Arena.Knots.length->eZ s.Arena.Knots (Bt s) i=i:=λi hi=>rI λj hj=>h.used j<|by omega
 have b:∀n:Int,n<(s.Arena.Knots.length:Int)->PE s.Arena.Knots (Bt s) n=n:=λn hn=>by
  unfold PE
  grind
 have a:∀r∈Bt s,PE s.Arena.Knots (Bt s) r=r:=λr hr=>by
  rcases BY (h.root r hr)with e|⟨h0,h1,_⟩
  ·grind
  exact b r h1
 have c:Vy s.Arena.Knots (Bt s)=s.Arena.Knots:=by
  unfold Vy;rw[GF.2 λi hi=>h.used i<|by simpa using hi];apply BN;intro i;rw[BX];by_cases hi:i<s.Arena.Knots.length
  ·rw[List.getElem?_range hi,Ab hi];simp only[BD];congr 1;have h0:(0:Int)<=(i:Int):=by omega
   have h1:(i:Int)<(s.Arena.Knots.length:Int):=by omega
   unfold Zg
   cases hl:(B8 s.Arena.Knots (i:Int)).Leaf with
   |true=>
    simp only[Ai];rw[<-hl,O4 hi]
   |false=>
    simp only[Ad];have:(B8 s.Arena.Knots (i:Int)).Kids.map (PE s.Arena.Knots<|Bt s)=(B8 s.Arena.Knots (i:Int)).Kids:=by
     conv=>rhs;rw[<-V0 (B8 s.Arena.Knots (i:Int)).Kids]
     apply CR;intro n hn;obtain⟨q,hq,rfl⟩:=A4 hn;obtain⟨h4,hk⟩:=FB h.ar h0 h1;have e5:=(hk q<|by omega).1;rw[Ab hq]at e5
     injection e5 with e5
     rw[e5]
     rcases Gu h.ar h0 h1 hl (show q<4 by omega)with k1|⟨k1,k2,k3⟩
     ·grind
     grind
    rw[this,<-hl,O4 hi]
  grind
 unfold L8;rw[c];have:(s.Vols.map λv=>Vol.mk v.Id<|PE s.Arena.Knots (Bt s) v.Root)=s.Vols:=by
  conv=>rhs;rw[<-V0 s.Vols]
  apply CR;intro v hv;rw[a _<|A5.2 ⟨v,hv,rfl⟩];rfl
 rw[this]
theorem dA {s:Nat} (hs:s<16):RR K r s∈ED K r:=A5.2 ⟨s,by simpa using hs,rfl⟩
theorem S8 {l:List Int} {y:Int} (h:l.Pairwise (·<·)) (a:i<j) (hx:l[i]?=some x) (hy:l[j]?=some y):x<y:=by
 obtain⟨h1,rfl⟩:=Ae.1 hx;obtain⟨h2,rfl⟩:=Ae.1 hy;exact CH.1 h i j h1 h2 a
theorem Sw (h:C3 s):PN s=some true:=by
 have hl:=h.len;have hf:=h.few;have d:(Bt s).length=s.Vols.length:=by unfold Bt;rw[Bs]
 unfold PN;rw[Bj,cF,KP _ (by omega),h.ar,Dk,Ac h.nx];obtain⟨b,h1,h2⟩:=AG (body:=λq:Int=>KJ s q) (λ(_:Unit) i=>i) s.Vols.length (λ_ _=>True) (λb=>b= .inl ())
  (λ_ i hi _=>by
   have hx:=Ab hi;have hm:s.Vols[i]∈s.Vols:=Aw hi;have hr:s.Vols[i].Root∈Bt s:=A5.2 ⟨_,hm,rfl⟩;simp only[KJ,DH hi,Au,hx,Aa];rw[Dk,Ac<|h.ids _ hm,N2 _ (by omega),h.root _ hr];simp only[Aa,An,Ad];have a:(cond (decide<|(i:Int)>0) ((gi s.Vols<|sb (i:Int) 1).bind λx2=>cond (decide<|x2.Id>=s.Vols[i].Id) (some true)<|some false) (some false):Option Bool)=some false:=by
    by_cases h0:i=0
    ·rw[cF]
    rw[cT,Cp,show(i:Int)-1=((i-1:Nat):Int) by omega,Au,Ab<|by omega];simp only[Aa];have:=S8 h.asc (show i-1<i by omega) (x:=s.Vols[i-1].Id) (y:=s.Vols[i].Id) (by grind) (by grind);rw[cF]
   rw[a];obtain⟨c,q1,q2⟩:=AG (body:=λq:Int=>N3 s s.Vols[i] q) (λ(_:Unit) i=>i) 16 (λ_ _=>True) (λb=>b= .inl ())
    (λ_ k hk _=>by
     simp only[N3];rw[cT,Yf _ h.ar (h.root _ hr) hk];simp only[Aa];have:=h.lt _ hr _<|dA hk;rw[cF,ad1]
     simp)
    (λ_ _=>⟨_,by rfl,rfl⟩) (s:=()) trivial
   rw[q1,q2];rw[ad1]
   simp)
  (λ_ _=>⟨_,by simp only[KJ,Dy],rfl⟩) (s:=()) trivial
 rw[h1,h2];simp only[Aa,Cq];rw[U7 s (by omega),Aa,aE _ (by omega) h.ar _ (by omega) h.root];have:Vy s.Arena.Knots (Bt s)=s.Arena.Knots:=by
  have:=ZO h;unfold L8 at this
  grind
 rw[this];simp
abbrev Vs:=List<|Int×List Int
def HH (l:Vs) (id:Int):Option (List Int):=(l.find? λp=>p.1==id).map Prod.snd
def bN (l:Vs) (id:Int) (a:List Int):Vs:=(l.filter λp=>decide<|p.1<id)++ [(id,a)]++l.filter λp=>decide<|p.1>id
def uU (l:Vs) (id:Int):Vs:=l.filter λp=>p.1 !=id
def eB (l:Vs) (id:Int) (s:Nat) (n:Int):Vs:=l.map λp=>if p.1=id then(p.1,p.2.set s n)else p
def G9 (r:Cx):Bool:=decide (0<=r.Arg/\r.Arg<=1000000000)&&(bif r.Kind==1 then r.Vol==0&&r.Chunk==0 else decide (2<=r.Kind/\r.Kind<=5)&&decide (1<=r.Vol/\r.Vol<=9)&&(r.Kind==4||r.Chunk==0)&&
 (bif r.Kind==2 then decide (r.Arg<=9)else bif r.Kind==3 then r.Arg==0 else bif r.Kind==4 then decide (r.Arg<16)&&decide (1<=r.Chunk/\r.Chunk<=1000000000)else decide (r.Arg<16)))
def Ob:List Int:=List.replicate 16 0
def Dd (l:Vs) (nx:Int) (r:Cx):Option (Vs×Int):=if G9 r=false then none else if r.Kind=1 then some ([],if r.Arg=0 then 1 else r.Arg) else if r.Kind=2 then
  if(0<r.Arg/\HH l r.Arg=none)\/HH l r.Vol≠none\/l.length=3 then none else some (bN l r.Vol (if 0<r.Arg then(HH l r.Arg).getD Ob else Ob),nx) else if HH l r.Vol=none\/r.Chunk=1000000000 then none else if r.Kind=3 then some (uU l r.Vol,nx) else some (eB l r.Vol r.Arg.toNat r.Chunk,max nx<|r.Chunk+1)
theorem NT (r:Cx):Pb r=some (G9 r):=by
 unfold Pb G9;simp only[Dk,Aa]
 cases decide (0<=r.Arg/\r.Arg<=1000000000)with
 |false=>rfl
 |true=>grind
theorem DU (s:Store) (hv:s.Vols.length<=1048576) (id:Int):(Dg s id=some (-1)/\∀v∈s.Vols,v.Id≠id)\/∃k:Nat,∃v,Dg s id=some (k:Int)/\s.Vols[k]?=some v/\v.Id=id/\∀j w,j<k->s.Vols[j]?=some w->w.Id≠id:=by
 unfold Dg;obtain⟨b,h1,h2⟩:=AG (body:=λq:Int=>Ht s id q) (λ(_:Unit) i=>i) s.Vols.length (λi _=>∀j w,j<i->s.Vols[j]?=some w->w.Id≠id)
  (λb=>(b= .inl ()/\∀v∈s.Vols,v.Id≠id)\/∃k:Nat,∃v,b= .inr (k:Int)/\s.Vols[k]?=some v/\v.Id=id/\∀j w,j<k->s.Vols[j]?=some w->w.Id≠id)
  (λ_ i hi hs=>by
   have hx:=Ab hi;simp only[Ht,DH hi,Au,hx,Aa]
   cases e:(s.Vols[i].Id==id)with
   |true=>grind
   |false=>
    rw[ad1];refine .inl ⟨(),rfl,λj w hj hw=>?_⟩
    grind)
  (λ_ hs=>⟨_,by simp only[Ht,Dy],.inl ⟨rfl,λv hv=>by
   obtain⟨j,hj,rfl⟩:=A4 hv
   exact hs j _ hj<|Ab hj⟩⟩) (s:=()) (λj w hj=>by omega)
 grind
theorem Jp {id:Int}:(∀v∈s.Vols,v.Id≠id)↔HH (AL s) id=none:=by
 unfold HH AL;simp
theorem ADU {w:Vol} (h:(s.Vols.map Vol.Id).Pairwise (·<·)) (hv:v∈s.Vols) (hw:w∈s.Vols) (e:v.Id=w.Id):v=w:=by
 obtain⟨i,hi,rfl⟩:=A4 hv;obtain⟨j,hj,rfl⟩:=A4 hw;have gi:(s.Vols.map Vol.Id)[i]?=some s.Vols[i].Id:=by grind
 have gj:(s.Vols.map Vol.Id)[j]?=some s.Vols[j].Id:=by grind
 rcases Vz i j with h1|h1|h1
 ·have:=S8 h h1 gi gj;omega
 ·subst h1;rfl
 have:=S8 h h1 gj gi;omega
theorem Mb (h:(s.Vols.map Vol.Id).Pairwise (·<·)) (hv:v∈s.Vols):HH (AL s) v.Id=some (ED s.Arena.Knots v.Root):=by
 unfold HH;have hm:(v.Id,ED s.Arena.Knots v.Root)∈AL s:=A5.2 ⟨v,hv,rfl⟩
 cases hf:(AL s).find? λp=>p.1==v.Id with
 |none=>grind
 |some p=>
  have h1:=List.find?_some hf;have h2:=List.mem_of_find?_eq_some hf;obtain⟨w,hw,rfl⟩:=A5.1 h2;have:w=v:=ADU h hw hv (by simpa using h1);rw[this];rfl
theorem IR (s:Store):(AL s).length=s.Vols.length:=by unfold AL;rw[Bs]
theorem pL (K:Ks):ED K (-1)=Ob:=by rfl
theorem vA (s:Store) (p:Int->Bool) (t:Store) (hk:t.Arena=s.Arena) (hv:t.Vols=s.Vols.filter λv=>p v.Id):AL t=(AL s).filter λq=>p q.1:=by
 unfold AL;rw[hk,hv,List.filter_map];rfl
theorem TF {body:List Vol×Int->Option ((List Vol×Int)⊕List Vol)} (l:List Vol) (p:Vol->Bool) (o:List Vol) (hM:l.length+o.length<=1048576) (h1:∀(i:Nat) v (a:List Vol),l[i]?=some v->a.length<=1048576->body (a,(i:Int))=some (.inl (bif p v then a++ [v]else a,((i+1:Nat):Int)))) (h2:∀a,body (a,(l.length:Int))=some (.inr a)):
  Al body (o,0)=some (o++l.filter p):=by
 obtain⟨b,h3,h4⟩:=AG (body:=body) (λ(q:List Vol) i=>(q,i)) l.length (λi q=>q=o++(l.take i).filter p) (λb=>b=o++l.filter p)
  (λq i hi hq=>by
   have hx:=Ab hi;refine .inl ⟨_,h1 i _ q hx ?_,?_⟩
   ·grind
   rw[hq,DQ,hx,AS]
   grind)
  (λq hq=>⟨q,h2 q,by grind⟩) (s:=o) (by simp)
 rw[h3,h4]
theorem AB8 {R':List Int} (h:∀r∈R,r∈R') (hu:CD K R i=true):CD K R' i=true:=by
 unfold CD at hu⊢
 grind
theorem ZW {l:List Vol} (h:(l.map Vol.Id).Pairwise (·<·)) (v:Vol):(((l.filter λw=>decide (w.Id<v.Id))++ [v]++l.filter λw=>decide (w.Id>v.Id)).map Vol.Id).Pairwise (·<·):=by
 rw[K9]at h;rw[K9,AE,AR];refine⟨h.filter _,?_,?_⟩
 ·grind
 grind
theorem gQ (l:List Vol) (id:Int):(l.filter λw=>decide (w.Id<id)).length+(l.filter λw=>decide (w.Id>id)).length<=l.length:=by
 induction l with
 |nil=>simp
 |cons v l ih=>grind
def Ms (s:Store) (r:Cx) (o:Option (Store×Bool)):Prop:=match Dd (AL s) s.Next r with
 |none=>o=some (s,false)
 |some (l,nx)=>∃t,o=some (t,true)/\C3 t/\AL t=l/\t.Next=nx
theorem AAg {r:Cx} (h:C3 s) (hr:G9 r=true) (hk:r.Kind=2):Ms s r (Gm s r):=by
 have hl:=h.len;have d:=Lp h.ar (by have:=h.few;omega);have b:=Gp s d (by omega);have hb:G9 r=true:=hr;unfold G9 at hr;rw[hk]at hr;simp at hr;unfold Ms Dd;rw[hb,hk];simp only[Uy,Ke,Cf,show¬((2:Int)=1) by omega];unfold Gm;have root:(HH (AL s) r.Arg=none/\0<r.Arg/\(cond (decide<|r.Arg>0) ((Dg s r.Arg).bind λv1=>cond (decide<|v1<0) ((Ee s).bind λv2=>some<|.inr (v2,false))<|(gi s.Vols v1).bind λx1=>some<|.inl x1.Root) (some<|.inl<|-1):Option (Int⊕(Store×Bool)))=some (.inr (s,false)))\/
   (¬(0<r.Arg/\HH (AL s) r.Arg=none)/\∃q,D4 s.Arena.Knots q=true/\(q= -1\/q∈Bt s)/\ED s.Arena.Knots q=(if 0<r.Arg then(HH (AL s) r.Arg).getD Ob else Ob)/\(cond (decide<|r.Arg>0) ((Dg s r.Arg).bind λv1=>cond (decide<|v1<0) ((Ee s).bind λv2=>some<|.inr (v2,false))<|(gi s.Vols v1).bind λx1=>some<|.inl x1.Root) (some<|.inl<|-1):Option (Int⊕(Store×Bool)))=some (.inl q)):=by
  by_cases h0:0<r.Arg
  ·rw[Ac (by omega:r.Arg>0)]
   rcases DU s (by omega) r.Arg with⟨h1,h2⟩|⟨k,v,h1,h2,h3,_⟩
   ·left;rw[h1,b];exact⟨Jp.1 h2,h0,rfl⟩
   right;rw[h1];have hm:=Ar h2;have hg:=Mb h.asc hm;refine⟨λhh=>(by grind),v.Root,h.root _<|A5.2 ⟨v,hm,rfl⟩,.inr<|A5.2 ⟨v,hm,rfl⟩,?_,?_⟩
   ·grind
   simp only[Aa];rw[cF,Au,h2];rfl
  right;rw[Af (by omega:¬r.Arg>0),AM h0];exact⟨λhh=>h0 hh.1,-1,rfl,.inl rfl,pL _,rfl⟩
 rcases root with⟨g1,g2,g3⟩|⟨g1,q,g2,g3,g4,g5⟩
 ·grind
 rw[g5];simp only[Aa,Cq]
 rcases DU s (by omega) r.Vol with⟨h1,h2⟩|⟨k,v,h1,h2,h3,_⟩
 ·rw[h1];rw[Aa,cF,Bj];have j:HH (AL s) r.Vol=none:=Jp.1 h2;by_cases h3:s.Vols.length=3
  ·rw[h3,AH<|.inr<|.inr<|by rw[IR,h3]]
   grind
  have e3:((s.Vols.length:Int)==3)=false:=by simp;omega
  rw[e3,AM (by
   rintro(hh|hh|hh)
   ·exact g1 hh
   ·exact hh j
   rw[IR]at hh;exact h3 hh)]
  rw[b];have k1:=TF (body:=λq:List Vol×Int=>Hl s r q.1 q.2) s.Vols (λv=>decide<|v.Id<r.Vol) [] (by simp;omega)
   (λi v c hv ho=>by
    have hi:=(Ae.1 hv).1;simp only[Hl,DH hi,Au,hv,Aa];rw[ad1]
    cases decide (v.Id<r.Vol)with
    |true=>rw[Bk (by simp;omega)];rfl
    |false=>rfl)
   (λc=>by simp only[Hl,Dy])
  rw[A3]at k1;rw[k1];simp only[Aa];have l:=gQ s.Vols r.Vol;rw[Bk (by simp;omega)];simp only[Aa];have k2:=TF (body:=λq:List Vol×Int=>Hk s r q.1 q.2) s.Vols (λv=>decide<|v.Id>r.Vol) ((s.Vols.filter λv=>decide<|v.Id<r.Vol)++ [Vol.mk r.Vol q]) (by simp;omega)
   (λi v c hv ho=>by
    have hi:=(Ae.1 hv).1;simp only[Hk,DH hi,Au,hv,Aa];rw[ad1]
    cases decide (v.Id>r.Vol)with
    |true=>rw[Bk (by simp;omega)];rfl
    |false=>rfl)
   (λc=>by simp only[Hk,Dy])
  rw[k2];have f:((s.Vols.filter λv=>decide<|v.Id<r.Vol)++ [Vol.mk r.Vol q]++s.Vols.filter λv=>decide<|v.Id>r.Vol).length<=3:=by grind
  have g:∀x∈Bt s,x∈(Bt<|Store.mk ((s.Vols.filter λv=>decide<|v.Id<r.Vol)++ [Vol.mk r.Vol q]++s.Vols.filter λv=>decide<|v.Id>r.Vol) s.Arena s.Next):=by
   intro x hx;obtain⟨v,hv,rfl⟩:=A5.1 hx;refine A5.2 ⟨v,?_,rfl⟩
   grind
  have a:∀x∈(Bt<|Store.mk ((s.Vols.filter λv=>decide<|v.Id<r.Vol)++ [Vol.mk r.Vol q]++s.Vols.filter λv=>decide<|v.Id>r.Vol) s.Arena s.Next),x= -1\/x∈Bt s:=by
   intro x hx;obtain⟨v,hv,rfl⟩:=A5.1 hx;simp only[Ao,AY,Bi]at hv
   rcases hv with(hv|rfl)|hv
   ·exact .inr<|A5.2 ⟨v,hv.1,rfl⟩
   ·exact g3
   exact .inr<|A5.2 ⟨v,hv.1,rfl⟩
  refine⟨_,rfl,⟨⟨f,h.ar,h.nx,?_,ZW h.asc<|Vol.mk r.Vol q,?_,?_,h.few⟩,?_⟩,?_,rfl⟩
  ·intro v hv;simp only[Ao,AY,Bi]at hv
   rcases hv with(hv|rfl)|hv
   ·exact h.ids v hv.1
   ·grind
   exact h.ids v hv.1
  ·intro x hx
   rcases a x hx with e|e
   ·rw[e];rfl
   exact h.root x e
  ·intro x hx
   rcases a x hx with e|e
   ·intro y hy;rw[e]at hy;rw[pL]at hy;have:=Dt hy;have:=h.nx
    grind
   exact h.lt x e
  ·intro i hi;exact AB8 g<|h.used i hi
  rw[<-g4];unfold bN AL;simp only[BT,Cr,YY,List.filter_map];rfl
 rw[h1];have hg:=Mb h.asc<|Ar h2
 grind
theorem PB {f:α->Int} {v:α} (h:(l.map f).Pairwise (·<·)) (hv:l[k]?=some v):l.take k++l.drop (k+1)=l.filter λw=>f w !=f v:=by
 rw[K9]at h;have hk:=(Ae.1 hv).1;have e:l=l.take k++v::l.drop (k+1):=by
  have h2:=AI hk;rw[(Ae.1 hv).2]at h2;rw[<-h2,BS]
 rw[e,AR]at h;obtain⟨h1,h2,h3⟩:=h;rw[C1]at h2
 conv=>rhs;rw[e]
 rw[AS,CX<|by simp];congr 1
 ·symm;rw[GF]
  grind
 symm;rw[GF]
 grind
theorem ACk (h:C3 s) (id:Int):StoreR (Store.mk (s.Vols.filter λw=>w.Id !=id) s.Arena s.Next):=by
 have hl:=h.len;refine⟨?_,h.ar,h.nx,λv hv=>h.ids v (AY.1 hv).1,?_,?_,?_,h.few⟩
 ·grind
 ·have:=h.asc
  grind
 ·intro x hx;obtain⟨w,hw,rfl⟩:=A5.1 hx;exact h.root _<|A5.2 ⟨w,(AY.1 hw).1,rfl⟩
 intro x hx;obtain⟨w,hw,rfl⟩:=A5.1 hx;exact h.lt _<|A5.2 ⟨w,(AY.1 hw).1,rfl⟩
theorem AEi {t:Nat} (h:C3 s) (h2:s.Vols[k]?=some v) (ht:t<16) (hn:0<=n) (e:n+1<=1000000000):StoreR (Store.mk (s.Vols.set k (Vol.mk v.Id ((s.Arena.Knots.length:Int)+1))) (Arena.mk (Kc s.Arena.Knots v.Root t n)) (max s.Next (n+1))):=by
 have hl:=h.len;have hm:=Ar h2;have a:=h.root _<|A5.2 ⟨v,hm,rfl⟩;have f:=h.small
 have b:∀w∈s.Vols.set k (Vol.mk v.Id<|(s.Arena.Knots.length:Int)+1),w∈s.Vols\/w=Vol.mk v.Id ((s.Arena.Knots.length:Int)+1):=λw hw=>CI hw
 refine⟨by simpa using hl,AER h.ar a ht hn,?_,?_,?_,?_,?_,?_⟩
 ·have:=h.nx
  grind
 ·intro w hw
  rcases b w hw with hw|rfl
  ·exact h.ids w hw
  exact h.ids v hm
 ·have:(s.Vols.set k<|Vol.mk v.Id<|(s.Arena.Knots.length:Int)+1).map Vol.Id=s.Vols.map Vol.Id:=by
   rw[List.map_set];apply BN
   grind
  rw[this];exact h.asc
 ·intro x hx;obtain⟨w,hw,rfl⟩:=A5.1 hx
  rcases b w hw with hw|rfl
  ·exact ABg<|h.root _<|A5.2 ⟨w,hw,rfl⟩
  exact zI
 ·intro x hx y hy;obtain⟨w,hw,rfl⟩:=A5.1 hx;show y<max s.Next (n+1)
  rcases b w hw with hw|rfl
  ·have d:=h.root _<|A5.2 ⟨w,hw,rfl⟩;have c:y∈ED s.Arena.Knots w.Root:=by rw[<-wL (X:=[Bq.mk true<|PX s.Arena.Knots v.Root t n,Bq.mk false<|UO s.Arena.Knots v.Root t]) h.ar d];exact hy
   have:=h.lt _ (A5.2 ⟨w,hw,rfl⟩) y c;omega
  have c:y∈(ED s.Arena.Knots v.Root).set t n:=by rw[<-wU (s:=t) (n:=n) h.ar a (by omega)];exact hy
  rcases CI c with c|rfl
  ·have:=h.lt _ (A5.2 ⟨v,hm,rfl⟩) y c;omega
  omega
 unfold Kc;simp;omega
theorem cR (h:C3 s) (r:Cx):Ms s r (T7 s r):=by
 have hl:=h.len;have d:=Lp h.ar (by have:=h.few;omega);have a:=Gp s d (by omega);unfold T7;rw[Sw h,NT];simp only[Aa,An,Ad]
 cases hb:G9 r with
 |false=>
  rw[a];unfold Ms Dd;rw[hb];rfl
 |true=>
  have hr:=hb;unfold G9 at hr
  cases k1:(r.Kind==1)with
  |true=>
   have e1:r.Kind=1:=by simpa using k1
   rw[e1]at hr;simp at hr;unfold Ms Dd;rw[hb,e1];have:(cond (r.Arg==0) (some 1) (some r.Arg):Option Int)=some (if r.Arg=0 then 1 else r.Arg):=by grind
   rw[this];refine⟨_,rfl,⟨⟨by simp,rfl,?_,by simp,by simp,by simp[Bt],by simp[Bt],by simp⟩,by simp⟩,rfl,rfl⟩
   grind
  |false=>
   have n1:r.Kind≠1:=by simpa using k1
   rw[k1]at hr
   cases k2:(r.Kind==2)with
   |true=>
    have:=AAg h hb (by simpa using k2);have e:((Gm s r).bind λv4=>some (v4.1,v4.2))=Gm s r:=by cases Gm s r<;>rfl
    grind
   |false=>
    have n2:r.Kind≠2:=by simpa using k2
    unfold Ms Dd;rw[hb];simp only[Uy,Ke,AM n1,AM n2]
    rcases DU s (by omega) r.Vol with⟨h1,h2⟩|⟨k,v,h1,h2,h3,_⟩
    ·rw[h1];simp only[Aa];rw[cT,AH<|.inl<|Jp.1 h2]
     grind
    rw[h1];simp only[Aa];rw[cF];simp only[Aa];have hm:=Ar h2;have g:=(Ae.1 h2).1;have hg:=Mb h.asc hm
    cases hc:(r.Chunk==1000000000)with
    |true=>grind
    |false=>
     have n:r.Chunk≠1000000000:=by simpa using hc
     rw[AM (by grind),a];simp only[Aa]
     cases k3:(r.Kind==3)with
     |true=>
      have e3:r.Kind=3:=by simpa using k3
      rw[AH e3];rw[Bj,ad1];have d1:dr s.Vols 0 (k:Int)=some (s.Vols.take k):=by
       unfold dr
       grind
      have d2:dr s.Vols ((k+1:Nat):Int) (s.Vols.length:Int)=some (s.Vols.drop<|k+1):=by
       unfold dr;rw[AH ⟨by omega,by omega,by omega⟩,AU,AU,AK<|by simp]
      rw[d1,d2];simp only[Aa];rw[Mj (by simp;omega)];simp only[Aa];rw[Bk (by simp;omega),PB h.asc h2,h3];simp only[Aa];have hR:=ACk h r.Vol;rw[Jx hR];refine⟨_,rfl,wB hR,?_,rfl⟩;rw[gK hR];exact vA s (λid=>id !=r.Vol) _ rfl rfl
     |false=>
      have n3:r.Kind≠3:=by simpa using k3
      rw[AM n3];have ha:0<=r.Arg/\r.Arg<16/\0<=r.Chunk/\r.Chunk<=1000000000:=by grind
      obtain⟨t,ht⟩:∃t:Nat,r.Arg=(t:Int):=⟨_,(AQ ha.1).symm⟩;rw[Au,h2];simp only[Aa];have c:=h.root _<|A5.2 ⟨v,hm,rfl⟩;rw[ht,aG _ (by have:=h.few;omega) h.ar c (by omega) ha.2.2.1];simp only[Aa];rw[D1];have hR:=AEi h h2 (show t<16 by omega) ha.2.2.1 (show r.Chunk+1<=1000000000 by omega);have f:AL (Store.mk (s.Vols.set k<|Vol.mk v.Id<|(s.Arena.Knots.length:Int)+1) (Arena.mk<|Kc s.Arena.Knots v.Root t r.Chunk)<|max s.Next<|r.Chunk+1)=eB (AL s) r.Vol t r.Chunk:=by
       unfold AL eB;simp only[FG];apply BN;intro j;rw[BX,BX,Gh];by_cases e:k=j
       ·subst e;rw[AH rfl,AH g,h2];simp only[BD,Function.comp];rw[AH h3,wU h.ar c<|by omega]
       rw[AM e]
       cases hj:s.Vols[j]? with
       |none=>rfl
       |some w=>
        have i:=Ar hj;have l:w.Id≠r.Vol:=by
         intro e2;have gi:(s.Vols.map Vol.Id)[k]?=some v.Id:=by grind
         have gj:(s.Vols.map Vol.Id)[j]?=some w.Id:=by grind
         rcases Vz k j with q|q|q
         ·have:=S8 h.asc q gi gj;omega
         ·exact e q
         grind
        simp only[BD,Function.comp];rw[AM l];have:=wL (X:=[Bq.mk true<|PX s.Arena.Knots v.Root t r.Chunk,Bq.mk false<|UO s.Arena.Knots v.Root t]) h.ar<|h.root _<|A5.2 ⟨w,i,rfl⟩;unfold Kc;rw[this]
      have m:∀b:Bool,b=decide (r.Chunk>=s.Next)->(cond b ((Hs<|Store.mk (s.Vols.set k<|Vol.mk v.Id<|(s.Arena.Knots.length:Int)+1) (Arena.mk<|Kc s.Arena.Knots v.Root t r.Chunk)<|ad r.Chunk 1).bind λv11=>some (v11,true))<|(Hs<|Store.mk (s.Vols.set k<|Vol.mk v.Id<|(s.Arena.Knots.length:Int)+1) (Arena.mk<|Kc s.Arena.Knots v.Root t r.Chunk) s.Next).bind λv12=>some (v12,true))=(Hs<|Store.mk (s.Vols.set k<|Vol.mk v.Id<|(s.Arena.Knots.length:Int)+1) (Arena.mk<|Kc s.Arena.Knots v.Root t r.Chunk)<|max s.Next<|r.Chunk+1).bind λv=>some (v,true):=by
       intro b hb;by_cases e:r.Chunk>=s.Next
       ·rw[hb,Ac e,Ai,Cw,show max s.Next (r.Chunk+1)=r.Chunk+1 by omega]
       grind
      rw[m _ rfl,Jx hR];refine⟨_,rfl,wB hR,?_,rfl⟩;rw[gK hR,f,AU]
theorem ABS (s:ByteArray) (f a:Int):Or s f a=Al (λn:Int=>Gv s a f n) 0:=by
 show(Al (λn:Int=>Gv s a f n) 0).bind _=_;simp
theorem ABR (s:ByteArray) (f a:Nat) (hf:f<a) (ha:a<=(L s).length) (hs:(L s).length<=64):∃k:Nat,Al (λn:Int=>Gv s (a:Int) (f:Int) n) 0=some (k:Int)/\k<=31/\a+k<=(L s).length:=by
 obtain⟨b,h1,k,rfl,h2,h3⟩:=AG (body:=λn:Int=>Gv s (a:Int) (f:Int) n) (λ(_:Unit) i=>i) 31 (λi _=>a+i<=(L s).length) (λb=>∃k:Nat,b=(k:Int)/\k<=31/\a+k<=(L s).length)
  (λ_ i hi hs=>by
   simp only[Gv];rw[cT,Cw,Cw,B4];by_cases c:a+i<(L s).length
   ·rw[cT];have e1:((f:Int)+(i:Int))=((f+i:Nat):Int):=by omega
    have e2:((a:Int)+(i:Int))=((a+i:Nat):Int):=by omega
    rw[e1,e2,EZ s (by omega),EZ s c];simp only[Aa]
    cases((((L s)[f+i]).toNat:Int)==(((L s)[a+i]).toNat:Int))with
    |true=>
     rw[ad1];exact .inl ⟨(),rfl,by omega⟩
    |false=>grind
   grind)
  (λ_ hs=>by
   simp only[Gv];rw[cF]
   exact⟨_,rfl,31,rfl,by omega,hs⟩) (s:=()) (by omega)
 grind
theorem uB (s:ByteArray) (a:Nat) (ha:a<=(L s).length) (hs:(L s).length<=64):∃z b:Nat,TJ s (a:Int)=some ((z:Int),(b:Int))/\Al (λq:Int×Int×Int=>E0 s (a:Int) q.1 q.2.1 q.2.2) (0,0,sb (a:Int) 1)=some ((z:Int),(b:Int))/\z<=31/\a+z<=(L s).length/\(z=0\/4<=z/\1<=b/\b<=a):=by
 have c:(λq:Int×Int×Int=>E0 s (a:Int) q.1 q.2.1 q.2.2)=λq:Int×Int×Int=>H0 s (a:Int) q.1 q.2.1 q.2.2:=by
  simp only[E0,H0,ABS]
 rw[c,Cp];obtain⟨r,h1,z,b,rfl,h2,h3,h4⟩:=AG (body:=λq:Int×Int×Int=>H0 s (a:Int) q.1 q.2.1 q.2.2) (λ(q:Nat×Nat) i=>((q.1:Int),(q.2:Int),(a:Int)-1-i)) a (λi q=>q.1<=31/\a+q.1<=(L s).length/\(q.1=0\/4<=q.1/\1<=q.2/\q.2<=a)) (λr=>∃z b:Nat,r=((z:Int),(b:Int))/\z<=31/\a+z<=(L s).length/\(z=0\/4<=z/\1<=b/\b<=a))
  (λq i hi hq=>by
   obtain⟨k,m1,m2,m3⟩:=ABR s (a-1-i) a (by omega) ha hs;have e1:((a:Int)-1-(i:Int))=((a-1-i:Nat):Int):=by omega
   simp only[H0,e1];rw[Ac (by omega:(((a-1-i:Nat)):Int)>=0),Ai,m1,Aa,Cp,Cp];refine .inl ?_;have e2:(((a-1-i:Nat):Int)-1)=(a:Int)-1-((i+1:Nat):Int):=by omega
   have e3:((a:Int)-((a-1-i:Nat):Int))=((1+i:Nat):Int):=by omega
   rw[e2,e3];by_cases h4:4<=k
   ·rw[cT];by_cases h5:q.1<k
    ·rw[Ac (by omega:(k:Int)>(q.1:Int))];exact⟨(k,1+i),rfl,m2,m3,.inr ⟨h4,by omega,by omega⟩⟩
    grind
   grind)
  (λq hq=>by
   simp only[H0]
   grind) (s:=(0,0)) ⟨by omega,by omega,.inl rfl⟩
 have e0:(((0:Nat):Int),((0:Nat):Int),(a:Int)-1-0)=((0:Int),(0:Int),(a:Int)-1):=by simp
 simp only[e0]at h1;refine⟨z,b,?_,h1,h2,h3,h4⟩;unfold TJ;rw[Cp,h1];rfl
def VF (t:AX):Prop:=(t.Back=0/\t.Size=0/\1<=(L t.Text).length/\(L t.Text).length<=31)\/(1<=t.Back/\t.Back<=64/\4<=t.Size/\t.Size<=31/\L t.Text=[])
theorem Fp (l:List α) (x:α):gi (l++ [x]) (l.length:Int)=some x:=by
 rw[Au];simp
theorem Kl (l:List α) (x y:α):si (l++ [x]) (l.length:Int) y=l++ [y]:=by
 rw[D1];simp
theorem r6 (s:ByteArray) (hs:(L s).length<=64):∃l,LM s=some l/\Rh s=some l/\l.length<=64/\∀t∈l,VF t:=by
 unfold LM Rh;obtain⟨l,h1,h2,h3,h4⟩:=TD (body:=λq:List AX×Int=>C4 s q.1 q.2) (body':=λq:List AX×Int=>My s q.1 q.2) (λq=>(L s).length-q.2.toNat)
  (λq=>∃a:Nat,q.2=(a:Int)/\a<=(L s).length/\q.1.length<=a/\∀t∈q.1,VF t) (λl=>l.length<=64/\∀t∈l,VF t)
  (by
   rintro⟨f,at_⟩ ⟨a,ha,h1,h2,h3⟩;simp only at ha h2 h3;subst ha;simp only[C4,My];rw[B4];by_cases i:a<(L s).length
   ·rw[Ac (by omega:(a:Int)<((L s).length:Int)),Ai,Ai];obtain⟨z,b,m1,m2,m3,m4,m5⟩:=uB s a h1 hs;rw[m1,m2];simp only[Aa]
    have c:∀x:AX,ap 32 f [x]=some (f++ [x]):=λx=>Bk<|by grind
    refine .inl ?_;by_cases hz:z=0
    ·subst hz;have esub:sub s (a:Int) (ad (a:Int) 1)=some (s.extract a<|a+1):=by rw[ad1];exact Fc s (by omega) (by omega)
     have elen:(L<|s.extract a<|a+1).length=1:=by rw[Ie];simp;omega
     rw[esub,ad1,Cp (by rw[Bj];omega) (by rw[Bj];omega),Bj]
     have ecat:∀x:ByteArray,(L x).length<=31->Ig x (s.extract a<|a+1)=some (x++s.extract a (a+1)):=λx hx=>FO _ _ (by rw[elen];omega)
     have e0:Ig (bs []) (s.extract a<|a+1)=some (s.extract a<|a+1):=by
      rw[ecat _ (by rw[Em];simp)];rfl
     have enew:VF (AX.mk 0 0<|s.extract a<|a+1):= .inl ⟨rfl,rfl,by grind,by grind⟩
     have d:∀(o:List AX) (x:AX),(∀t∈o,VF t)->VF x->∀t∈o++ [x],VF t:=λo x ho hx t ht=>by grind
     have fin:∀o:List AX,o.length<=a+1->(∀t∈o,VF t)->(∃a':Nat,((a+1:Nat):Int)=(a':Int)/\a'<=(L s).length/\o.length<=a'/\∀t∈o,VF t)/\(L s).length-(((a+1:Nat)):Int).toNat<(L s).length-((a:Int)).toNat:=λo g h=>⟨⟨a+1,rfl,by omega,g,h⟩,by omega⟩
     rcases Hr f with rfl|⟨o,x,rfl⟩
     ·simp only[El,Int.ofNat_zero,Int.zero_sub];rw[Ac (by omega:(-1:Int)<0),Af (by omega:¬(-1:Int)>=0)];simp only[Ai,Ad,Aa,c];rw[show ad (-1) 1=(([]:List AX).length:Int)from rfl];simp only[Fp,Aa,e0,Kl];exact⟨_,rfl,rfl,fin _ (by simp)<|d _ _ (by simp) enew⟩
     rw[K7]at h2 h3 c⊢;simp only[Ak,BG]at h2⊢;have ek:(((o.length+1:Nat):Int)-1)=(o.length:Int):=by omega
     rw[ek,Af (by omega:¬(o.length:Int)<0),Ac (by omega:(o.length:Int)>=0)];simp only[Ai,Ad,Fp,Aa];have hx:=h3 x (by simp);have e:=d (o++ [x]) _ h3 enew;have elast:ad (o.length:Int) 1=((o++ [x]).length:Int):=by rw[ad1];simp
     rcases hx with⟨x1,x2,x3,x4⟩|⟨x1,x2,x3,x4,x5⟩
     ·rw[x1];simp only[show((0:Int)==0)=true from rfl,Ai,show decide ((0:Int)>0)=false from rfl,Ad];rw[B4];by_cases h31:(L x.Text).length<31
      ·rw[Ac (by omega:((L x.Text).length:Int)<31),Af (by omega:¬((L x.Text).length:Int)>=31)];simp only[Ai,Ad,Aa,Fp,ecat _ x4,Kl];simp only[x1];refine⟨_,rfl,rfl,fin _ (by simp;omega)<|d _ _ (λt ht=>h3 t<|by simp[ht])<|.inl ⟨rfl,x2,?_,?_⟩⟩
       ·simp only;rw[DO,Ak,elen];omega
       simp only;rw[DO,Ak,elen];omega
      rw[Af (by omega:¬((L x.Text).length:Int)<31),Ac (by omega:((L x.Text).length:Int)>=31)];simp only[Ai,Ad,Aa,c,elast,Fp,e0,Kl];exact⟨_,rfl,rfl,fin _ (by simp;omega) e⟩
     have hb:(x.Back==0)=false:=by simp;omega
     rw[hb,Ac (by omega:x.Back>0)];simp only[Ai,Ad,Aa,c,elast,Fp,e0,Kl];exact⟨_,rfl,rfl,fin _ (by simp;omega) e⟩
    rw[Ac (by omega:(z:Int)>0),Ai,Ai,c];rw[Cw];refine⟨_,rfl,rfl,⟨a+z,by simp,by omega,by simp;omega,?_⟩,by simp only;omega⟩;intro t ht
    rcases Ao.1 ht with ht|ht
    ·exact h3 t ht
    rw[Bi]at ht;subst ht;refine .inr ⟨?_,?_,?_,?_,by rfl⟩<;>simp only<;>omega
   grind) ((L s).length) ([],0) (by simp) ⟨0,rfl,by omega,by simp,by simp⟩
 grind
theorem VH (l m:List Int):L (Fd (l++m))=L (Fd l)++L (Fd m):=by rw[Mk,Mk,Mk,BT]
theorem Og (l:List Int):(L (Fd l)).length=l.length:=by rw[Mk,Bs]
theorem AAX (b:ByteArray):L (Fd (tD b))=L b:=by
 rw[Mk,tD,FG];have:((λn:Int=>UInt8.ofNat n.toNat)∘λc:UInt8=>(c.toNat:Int))=id:=by
  funext c;simp
 rw[this,V0];rfl
theorem ACy (l:List Int) (b:ByteArray):aps l b=ap 1 l (tD b):=by
 have:(tD b).length=b.size:=by simp[tD]
 unfold aps ap
 grind
theorem kL (b:ByteArray):(tD b).length=(L b).length:=by simp[tD,L]
theorem YJ (s:ByteArray):∃z ok,EU s=some (z,ok)/\Ma s=some (z,ok)/\(ok=false->z=bs [])/\(ok=true->(L s).length<=64/\((L z)[0]?=some 122\/(L z)[0]?=some 114)):=by
 unfold EU Ma;rw[B4];by_cases hs:(L s).length<=64
 ·rw[Af (by omega:¬((L s).length:Int)>64),Ad,Ad];obtain⟨l,t1,t2,t3,t4⟩:=r6 s hs;rw[t1,t2];simp only[Aa];obtain⟨z,v,h1,h2,rfl,h3,h4⟩:=iT (body:=λq:ByteArray×Int=>Fl l q.1 q.2) (body':=λq:List Int×Int=>JB l q.1 q.2) (λv i=>(Fd v,i)) (λv i=>(v,i)) l.length (λi v=>v.length<=1+33*i/\(L<|Fd v)[0]?=some 122) (λz v=>z=Fd v/\v.length<=4000/\(L<|Fd v)[0]?=some 122)
   (λv i hi hv=>by
    have hg:l[i]?=some l[i]:=Ab hi;have ht:=t4 _<|Aw hi;refine .inl ?_;simp only[Fl,JB,I9,Ac hi,Ai,Au,hg,Aa]
    have b:∀(a:ByteArray) (m:List Int),(L a).length<=4000->m.length<=2->Ig a (Fd m)=some (a++Fd m):=λa m h1 h2=>FO _ _ (by rw[Og];omega)
    have h0:∀m:List Int,(L<|Fd<|v++m)[0]?=some 122:=λm=>by
     rw[VH,Ch]
     ·exact hv.2
     grind
    rcases ht with⟨x1,x2,x3,x4⟩|⟨x1,x2,x3,x4,x5⟩
    ·rw[x1];simp only[show((0:Int)==0)=true from rfl,Ai,show decide ((0:Int)>0)=false from rfl,Ad];rw[b _ _ (by rw[Og];omega) (by simp),Bk<|by grind];simp only[Aa];rw[FO _ _ (by rw[DO,Ak,Og,Og];grind),ACy,Bk (by rw[kL];grind)];simp only[Aa];rw[ad1<|by omega];refine⟨v++([IntKind.u8.wrap<|FJ l[i].Text]++tD l[i].Text),?_,by simp,?_,h0 _⟩
     ·congr 4;apply JM;rw[DO,DO,VH,VH,AAX,AE]
     simp only[Ak,BG,kL];omega
    have hb:(l[i].Back==0)=false:=by simp;omega
    rw[hb,Ac (by omega:l[i].Back>0)];simp only[Ai,Ad];rw[b _ _ (by rw[Og];omega) (by simp),Bk<|by grind];simp only[Aa];rw[ad1<|by omega];refine⟨v++ [IntKind.u8.wrap<|ad 128 l[i].Size,IntKind.u8.wrap l[i].Back],?_,rfl,?_,h0 _⟩
    ·congr 4;apply JM;rw[DO,VH]
    grind)
   (λv hv=>⟨_,_,by simp only[Fl,I9,EP,HX,Ad],by simp only[JB,I9,EP,HX,Ad],rfl,by omega,hv.2⟩) (s:=[122]) ⟨by simp,by rw[Mk];rfl⟩
  have e0:(Fd [122],(0:Int))=(bs [122],(0:Int)):=by rfl
  simp only[e0]at h1;rw[h1,h2];simp only[Aa];rw[B4,Og,Bj,Cw (by omega)<|by omega];by_cases hc:((L s).length:Int)+1<=(v.length:Int)
  ·rw[Ac hc,Ai,FO _ _ (by rw[Em];grind)];refine⟨_,true,rfl,rfl,by simp,λ_=>⟨hs,.inr ?_⟩⟩;rfl
  rw[Af hc,Ad]
  grind
 rw[Ac (by omega:((L s).length:Int)>64),Ai,Ai];simp
def Sh (t:AX):Prop:=(t.Back=0/\t.Size=0/\1<=(L t.Text).length/\(L t.Text).length<=31)\/(t.Back≠0/\1<=t.Size/\t.Size<=31/\L t.Text=[])
theorem nV:Qf=FW:=by
 funext l;unfold Qf FW;have hb:ND l=DY l:=by
  funext out y;unfold ND DY
  cases decide (y<ln l)with
  |false=>rfl
  |true=>
   cases gi l y with
   |none=>rfl
   |some t=>
    simp only[Aa,cQ,RM,ACy]
    have h2:(λs:List Int×Int=>Rn t s.1 s.2)=λs:List Int×Int=>DX t s.1 s.2:=rfl
    grind
 rw[hb]
theorem RH (l:List AX) (hl:l.length<=1048576):∃p ok,FW l=some (p,ok)/\(ok=true->∀t∈l,Sh t):=by
 unfold FW;obtain⟨r,h1,h2⟩:=AG (body:=λq:List Int×Int=>DY l q.1 q.2) (λ(o:List Int) i=>(o,i)) l.length (λi o=>o.length<=64/\∀(j:Nat) t,j<i->l[j]?=some t->Sh t) (λr=>(∃o,r= .inl o/\∀t∈l,Sh t)\/r= .inr (bs [],false))
  (λo i hi ho=>by
   have hg:l[i]?=some l[i]:=Ab hi;simp only[DY,DH hi,Au,hg,Aa,RM];have good:∀(o':List Int),Sh l[i]->(∃s',(some (.inl o':(List Int)⊕(List Int×Int)⊕(List Int)⊕(ByteArray×Bool))).bind (Sum.elim (λj1=>cond (decide<|(ln j1)>64) (some<|.inr<|.inr (bs [],false))<|some<|.inl (j1,ad (i:Int) 1)) some)=some (.inl (s',((i+1:Nat):Int)))/\s'.length<=64/\∀(j:Nat) t,j<i+1->l[j]?=some t->Sh t)\/∃b,(some (.inl o':(List Int)⊕(List Int×Int)⊕(List Int)⊕(ByteArray×Bool))).bind (Sum.elim (λj1=>cond (decide<|(ln j1)>64) (some<|.inr<|.inr (bs [],false))<|some<|.inl (j1,ad (i:Int) 1)) some)=some (.inr b)/\((∃o,b= .inl o/\∀t∈l,Sh t)\/b= .inr (bs [],false)):=by
    intro o' ht;simp only[Aa,Cq];by_cases h64:o'.length<=64
    ·rw[Af (by rw[Bj];omega),Ad,ad1]
     grind
    rw[Ac (by rw[Bj];omega),Ai];simp
   by_cases hb:l[i].Back=0
   ·rw[hb];rw[B4];by_cases hx:(1<=(L l[i].Text).length/\(L l[i].Text).length<=31)/\l[i].Size=0
    ·obtain⟨⟨c,d⟩,a⟩:=hx;rw[Ac (by omega:(1:Int)<=((L l[i].Text).length:Int)),Ac (by omega:((L l[i].Text).length:Int)<=31),a];rw[Bk (by rw[kL];omega)];exact good _<|.inl ⟨hb,a,c,d⟩
    grind
   have hb':(l[i].Back==0)=false:=by simpa using hb
   rw[hb'];rw[Bj,RK,Em];by_cases hx:(1<=l[i].Back/\l[i].Back<=(o.length:Int))/\(1<=l[i].Size/\l[i].Size<=31)/\L l[i].Text=[]
   ·obtain⟨⟨y1,y2⟩,⟨y3,y4⟩,y5⟩:=hx;rw[Ac y1,Ac y2,Ac y3,Ac y4,Ac y5];obtain⟨o',q1,q2⟩:=AG (body:=λq:List Int×Int=>DX l[i] q.1 q.2) (λ(o:List Int) k=>(o,k)) l[i].Size.toNat (λk u=>u.length=o.length+k) (λ_=>True)
     (λu k hk hu=>by
      simp only[DX];rw[cT,Cp (by rw[Bj];omega) (by rw[Bj];omega),Bj,Lm (by omega) (by omega),Aa,Bk (by grind),ad1]
      grind)
     (λu hu=>⟨u,by simp only[DX];rw[cF],trivial⟩) (s:=o) (by omega)
    rw[q1];exact good _<|.inr ⟨hb,y3,y4,y5⟩
   grind)
  (λo ho=>⟨_,by simp only[DY,Dy],.inl ⟨o,rfl,λt ht=>by
   obtain⟨j,hj,rfl⟩:=A4 ht
   simp_all⟩⟩) (s:=[]) ⟨by simp,λj t hj=>by omega⟩
 grind
theorem Zb (c:UInt8):IntKind.i64.wrap (c.toNat:Int)=(c.toNat:Int):=OH (by omega) (by have:=c.toNat_lt;omega)
theorem gH (rem:ByteArray) (a:List AX) (h:0<(L rem).length) (ho:a.length<=1048576) (hr:(L rem).length<=1048576):
  DD rem a=some (if 128<=(L rem)[0].toNat/\2<=(L rem).length then .inl (rem.extract 2 (L rem).length,a++ [AX.mk (((L rem)[1]?.getD 0).toNat:Int) (((L rem)[0].toNat:Int)-128) (bs [])])
   else if(L rem)[0].toNat<128/\(L rem)[0].toNat<(L rem).length then .inl (rem.extract (1+(L rem)[0].toNat) (L rem).length,a++ [AX.mk 0 0 (rem.extract 1 (1+(L rem)[0].toNat))])
   else .inr (.inr ([],false))):=by
 have d:=(L rem)[0].toNat_lt;have b:seq rem (bs [])=false:=by
  rw[RK,Em,Gg]
  grind
 have c:∀x:AX,ap 32 a [x]=some (a++ [x]):=λx=>Bk<|by grind
 unfold DD;rw[b];have s0:sx rem 0=some ((L rem)[0].toNat:Int):=EZ rem (i:=0) h;simp only[Ck,Ai,s0,Aa,Zb,B4,c];have c0:ad 1 ((L rem)[0].toNat:Int)=((1+(L rem)[0].toNat:Nat):Int):=by rw[Cw];omega
 rw[c0];by_cases h1:128<=(L rem)[0].toNat
 ·rw[Ac (by omega:((L rem)[0].toNat:Int)>=128),Af (by omega:¬((L rem)[0].toNat:Int)<128)];simp only[Ai,Ad,Aa];by_cases h2:2<=(L rem).length
  ·have s1:sx rem 1=some ((L rem)[1].toNat:Int):=EZ rem (i:=1) (by omega);have s2:sub rem 2 ((L rem).length:Int)=some (rem.extract 2 (L rem).length):=Fc rem (i:=2) h2<|Az _;rw[s1,s2,Cp];simp only[Aa,Zb]
   grind
  grind
 rw[Af (by omega:¬((L rem)[0].toNat:Int)>=128),Ac (by omega:((L rem)[0].toNat:Int)<128),AM λe=>h1 e.1];simp only[Ai,Ad,Aa];by_cases h2:(L rem)[0].toNat<(L rem).length
 ·have s1:sub rem 1 ((1+(L rem)[0].toNat:Nat):Int)=some (rem.extract 1<|1+(L rem)[0].toNat):=Fc rem (i:=1) (by omega) (by omega);have s2:sub rem ((1+(L rem)[0].toNat:Nat):Int) ((L rem).length:Int)=some (rem.extract (1+(L rem)[0].toNat) (L rem).length):=Fc rem (by omega) (Az _)
  grind
 grind
theorem ZM (rem:ByteArray) (a:List AX) (h:(L rem).length=0):DD rem a=some (.inr (.inl a)):=by
 have b:seq rem (bs [])=true:=by
  rw[RK,Em,A6]
  grind
 unfold DD;rw[b];rfl
theorem gG (t:ByteArray) (b:List AX) (a:Nat) (h:a<(L t).length) (ho:b.length<=1048576) (hr:(L t).length<=1048576):
  BW t b (a:Int)=some (if 128<(L t)[a].toNat then(if a+2<=(L t).length then .inl (b++ [AX.mk (((L t)[a+1]?.getD 0).toNat:Int) (((L t)[a].toNat:Int)-128) (bs [])],((a+2:Nat):Int))else .inr (.inr (b,false)))
   else if a+1+(L t)[a].toNat<=(L t).length then .inl (b++ [AX.mk 0 0 (t.extract (a+1) (a+1+(L t)[a].toNat))],((a+1+(L t)[a].toNat:Nat):Int))
   else .inr (.inr (b,false))):=by
 have d:=(L t)[a].toNat_lt
 have c:∀x:AX,ap 32 b [x]=some (b++ [x]):=λx=>Bk<|by grind
 have c2:ad (a:Int) 2=((a+2:Nat):Int):=by rw[Cw];omega
 have c3:ad ((a+1:Nat):Int) ((L t)[a].toNat:Int)=((a+1+(L t)[a].toNat:Nat):Int):=by rw[Cw];omega
 unfold BW;rw[B4,cT,EZ t h];simp only[Aa,Zb,c];rw[c2,ad1,c3];by_cases h1:128<(L t)[a].toNat
 ·rw[cT,AH h1];by_cases h2:a+2<=(L t).length
  ·rw[cF,AH h2,EZ t (by omega:a+1<(L t).length),Cp];simp only[Aa,Zb]
   grind
  grind
 rw[cF,AM h1];by_cases h2:a+1+(L t)[a].toNat<=(L t).length
 ·rw[Af (by omega:¬((a+1+(L t)[a].toNat:Nat):Int)>((L t).length:Int)),Ad,AH h2,Fc t (by omega) h2];rfl
 grind
theorem ZL (t:ByteArray) (b:List AX) (a:Nat) (h:(L t).length<=a):BW t b (a:Int)=some (.inr (.inl b)):=by
 unfold BW;rw[B4,cF]
theorem AAQ (rem:ByteArray) (a:List AX) (h:a.length+(L rem).length<=1048576):∃r,Al (λq:ByteArray×List AX=>DD q.1 q.2) (rem,a)=some r/\((∃l,r= .inl l/\l.length<=1048576/\∀t∈a,t∈l)\/r= .inr ([],false)):=by
 obtain⟨r,h1,_,h2⟩:=TD (body:=λq:ByteArray×List AX=>DD q.1 q.2) (body':=λq:ByteArray×List AX=>DD q.1 q.2) (λq=>(L q.1).length) (λq=>q.2.length+(L q.1).length<=1048576/\∀t∈a,t∈q.2) (λr=>(∃l,r= .inl l/\l.length<=1048576/\∀t∈a,t∈l)\/r= .inr ([],false))
  (by
   rintro⟨rem,o⟩ ⟨hl,ho⟩;simp only at hl ho;simp only
   rcases Uv (L rem).length with h0|h0
   ·rw[ZM rem o h0]
    grind
   rw[gH rem o h0 (by omega)<|by omega];split
   ·refine .inl ⟨_,rfl,rfl,⟨?_,λt ht=>Bm _<|ho t ht⟩,?_⟩
    ·simp only[Ak,BG,Ie,Bw,Ds];omega
    simp only[Ie,Bw,Ds];omega
   split
   ·refine .inl ⟨_,rfl,rfl,⟨?_,λt ht=>Bm _<|ho t ht⟩,?_⟩
    ·simp only[Ak,BG,Ie,Bw,Ds];omega
    simp only[Ie,Bw,Ds];omega
   simp) _ (rem,a) (Az _) ⟨h,λt ht=>ht⟩
 grind
theorem AAP (t:ByteArray) (b:List AX) (a:Nat) (ha:a<=(L t).length) (h:b.length<=a) (hr:(L t).length<=1048576):∃r,Al (λq:List AX×Int=>BW t q.1 q.2) (b,(a:Int))=some r/\((∃l,r= .inl l/\l.length<=1048576/\∀x∈b,x∈l)\/∃l,r= .inr (l,false)/\l.length<=1048576):=by
 obtain⟨r,h1,_,h2⟩:=TD (body:=λq:List AX×Int=>BW t q.1 q.2) (body':=λq:List AX×Int=>BW t q.1 q.2) (λq=>(L t).length-q.2.toNat) (λq=>∃a:Nat,q.2=(a:Int)/\a<=(L t).length/\q.1.length<=a/\∀x∈b,x∈q.1) (λr=>(∃l,r= .inl l/\l.length<=1048576/\∀x∈b,x∈l)\/∃l,r= .inr (l,false)/\l.length<=1048576)
  (by
   rintro⟨o,at_⟩ ⟨a,ha,hl,hb,ho⟩;simp only at ha hb ho;subst ha;simp only
   rcases Ej a (L t).length with h0|h0
   ·rw[gG t o a h0 (by omega) hr];split
    ·split
     ·refine .inl ⟨_,rfl,rfl,⟨a+2,rfl,by omega,by grind,λt ht=>Bm _<|ho t ht⟩,by simp only;omega⟩
     grind
    split
    ·refine .inl ⟨_,rfl,rfl,⟨_,rfl,by assumption,by grind,λt ht=>Bm _<|ho t ht⟩,by simp only;omega⟩
    grind
   rw[ZL t o a h0]
   grind) _ (b,(a:Int)) (Az _) ⟨a,rfl,ha,h,λt ht=>ht⟩
 grind
theorem AAO (t:ByteArray) (hr:(L t).length<=1048576):∀(n a:Nat) (rem:ByteArray) (b:List AX),(L t).length-a<=n->a<=(L t).length->L rem=(L t).drop a->b.length<=a->
  ∃ri rs,Al (λq:ByteArray×List AX=>DD q.1 q.2) (rem,b)=some ri/\Al (λq:List AX×Int=>BW t q.1 q.2) (b,(a:Int))=some rs/\
   ((∃l,ri= .inl l/\rs= .inl l/\l.length<=1048576)\/((ri= .inr ([],false)\/∃l,ri= .inl l/\l.length<=1048576/\∃x∈l,¬Sh x)/\((∃l,rs= .inr (l,false)/\l.length<=1048576)\/∃l,rs= .inl l/\l.length<=1048576/\∃x∈l,¬Sh x))):=by
 intro n
 induction n with
 |zero=>
  intro a rem b h1 h2 h3 h4;have ha:a=(L t).length:=by omega
  have d:(L rem).length=0:=by rw[h3,ha];simp
  refine⟨_,_,by rw[Ax];simp only[ZM rem b d],by rw[Ax];simp only[ZL t b a<|by omega],.inl ⟨b,rfl,rfl,by omega⟩⟩
 |succ n ih=>
  intro a rem b h1 h2 h3 h4
  rcases Ej a (L t).length with h0|h0
  ·have m:(L rem).length=(L t).length-a:=by rw[h3];simp
   have f:0<(L rem).length:=by omega
   have h:(L rem)[0]=(L t)[a]:=by grind
   have i:(L rem)[1]?.getD 0=(L t)[a+1]?.getD 0:=by grind
   have c:=gH rem b f (by omega) (by omega);have g:=gG t b a h0 (by omega) hr
   have e:∀k,L (rem.extract k (L rem).length)=(L t).drop (a+k):=λk=>by
    rw[Ie,h3,CA,AK]
    grind
   rw[h,i]at c
   rcases Vz (L t)[a].toNat 128 with hc|hc|hc
   ·rw[AM<|by omega]at c;by_cases hk:a+1+(L t)[a].toNat<=(L t).length
    ·obtain⟨ri,rs,q1,q2,q3⟩:=ih (a+1+(L t)[a].toNat) (rem.extract (1+(L t)[a].toNat) (L rem).length) (b++ [AX.mk 0 0<|t.extract (a+1)<|a+1+(L t)[a].toNat]) (by omega) hk (by grind) (by grind);have etx:rem.extract 1 (1+(L t)[a].toNat)=t.extract (a+1) (a+1+(L t)[a].toNat):=by
      apply JM;rw[Ie,Ie,h3,CA];simp
     refine⟨ri,rs,?_,?_,q3⟩
     ·rw[Ax]
      grind
     rw[Ax]
     grind
    exact⟨_,_,by rw[Ax];grind,by rw[Ax];grind,.inr ⟨.inl rfl,.inl ⟨b,rfl,by omega⟩⟩⟩
   ·
    have hI:∃ri,Al (λq:ByteArray×List AX=>DD q.1 q.2) (rem,b)=some ri/\(ri= .inr ([],false)\/∃l,ri= .inl l/\l.length<=1048576/\∃x∈l,¬Sh x):=by
     by_cases hk:2<=(L rem).length
     ·obtain⟨r,q1,q2⟩:=AAQ (rem.extract 2 (L rem).length) (b++ [AX.mk (((L t)[a+1]?.getD 0).toNat:Int) (((L t)[a].toNat:Int)-128)<|bs []]) (by grind);refine⟨r,by rw[Ax];grind,?_⟩
      rcases q2 with⟨l,rfl,q3,q4⟩|rfl
      ·refine .inr ⟨l,rfl,q3,_,q4 _<|BF _<|Bi.2 rfl,?_⟩;intro hk
       rcases hk with⟨_,_,k3,_⟩|⟨_,k2,_⟩
       ·simp only[Em,El]at k3;omega
       grind
      exact .inl rfl
     exact⟨_,by rw[Ax];grind,.inl rfl⟩
    have hS:∃rs,Al (λq:List AX×Int=>BW t q.1 q.2) (b,(a:Int))=some rs/\((∃l,rs= .inr (l,false)/\l.length<=1048576)\/∃l,rs= .inl l/\l.length<=1048576/\∃x∈l,¬Sh x):=by
     by_cases hk:a+1+(L t)[a].toNat<=(L t).length
     ·obtain⟨r,q1,q2⟩:=AAP t (b++ [AX.mk 0 0<|t.extract (a+1)<|a+1+(L t)[a].toNat]) (a+1+(L t)[a].toNat) hk (by grind) hr;refine⟨r,by rw[Ax];grind,?_⟩
      rcases q2 with⟨l,rfl,q3,q4⟩|⟨l,rfl,q3⟩
      ·refine .inr ⟨l,rfl,q3,_,q4 _<|BF _<|Bi.2 rfl,?_⟩;intro j
       rcases j with⟨_,_,_,k4⟩|⟨k1,_⟩
       ·simp only[Ie,Bw,Ds]at k4;omega
       exact k1 rfl
      grind
     exact⟨_,by rw[Ax];grind,.inl ⟨b,rfl,by omega⟩⟩
    obtain⟨ri,q1,q2⟩:=hI;obtain⟨rs,q3,q4⟩:=hS;exact⟨ri,rs,q1,q3,.inr ⟨q2,q4⟩⟩
   by_cases hk:a+2<=(L t).length
   ·obtain⟨ri,rs,q1,q2,q3⟩:=ih (a+2) (rem.extract 2 (L rem).length) (b++ [AX.mk (((L t)[a+1]?.getD 0).toNat:Int) (((L t)[a].toNat:Int)-128)<|bs []]) (by omega) hk (e 2) (by grind);exact⟨ri,rs,by rw[Ax];grind,by rw[Ax];grind,q3⟩
   exact⟨_,_,by rw[Ax];grind,by rw[Ax];grind,.inr ⟨.inl rfl,.inl ⟨b,rfl,by omega⟩⟩⟩
  have ha:a=(L t).length:=by omega
  have d:(L rem).length=0:=by rw[h3,ha];simp
  refine⟨_,_,by rw[Ax];simp only[ZM rem b d],by rw[Ax];simp only[ZL t b a<|by omega],.inl ⟨b,rfl,rfl,by omega⟩⟩
theorem ABv (t:ByteArray) (hr:(L t).length<=1048576):∃li oi ls os pi ki ps ks,QZ t=some (li,oi)/\Kp t=some (ls,os)/\Qf li=some (pi,ki)/\FW ls=some (ps,ks)/\((oi=os/\pi=ps/\ki=ks)\/((oi=false\/ki=false)/\(os=false\/ks=false))):=by
 obtain⟨ri,rs,q1,q2,q3⟩:=AAO t hr ((L t).length) 0 t [] (by omega) (by omega) (by simp) (by simp);have e0:(([]:List AX),((0:Nat):Int))=([],0):=rfl;simp only[e0]at q2;unfold QZ Kp;rw[q1,q2,nV];have none:∀l:List AX,l.length<=1048576->(∃x∈l,¬Sh x)->∃p,FW l=some (p,false):=by
  rintro l hl ⟨x,hx,hn⟩;obtain⟨p,ok,h1,h2⟩:=RH l hl
  cases ok with
  |false=>exact⟨p,h1⟩
  |true=>grind
 rcases q3 with⟨l,rfl,rfl,hl⟩|⟨hi,hs⟩
 ·obtain⟨p,ok,h1,_⟩:=RH l hl;exact⟨l,true,l,true,p,ok,p,ok,rfl,rfl,h1,h1,.inl ⟨rfl,rfl,rfl⟩⟩
 have hI:∃li oi pi ki,(some ri).bind (Sum.elim (λv1=>some (v1,true)) some)=some (li,oi)/\FW li=some (pi,ki)/\(oi=false\/ki=false):=by
  rcases hi with rfl|⟨l,rfl,hl,hb⟩
  ·obtain⟨p,ok,h1,_⟩:=RH [] (by simp)
   grind
  obtain⟨p,h1⟩:=none l hl hb;simp_all
 have hS:∃li oi pi ki,(some rs).bind (Sum.elim (λv1=>some (v1,true)) some)=some (li,oi)/\FW li=some (pi,ki)/\(oi=false\/ki=false):=by
  rcases hs with⟨l,rfl,hl⟩|⟨l,rfl,hl,hb⟩
  ·obtain⟨p,ok,h1,_⟩:=RH l hl
   grind
  grind
 obtain⟨li,oi,pi,ki,a1,a2,a3⟩:=hI;obtain⟨ls,os,ps,ks,b1,b2,b3⟩:=hS;exact⟨li,oi,ls,os,pi,ki,ps,ks,a1,b1,a2,b2,.inr ⟨a3,b3⟩⟩
theorem UI (t:ByteArray) (hr:(L t).length<=1048576):∃u ok,Gq t=some (u,ok)/\NB t=some (u,ok)/\(ok=false->u=bs [])/\(ok=true->(L u).length<=64):=by
 unfold Gq NB;rw[B4,RK,Em];by_cases h0:L t=[]
 ·simp_all
 have a:0<(L t).length:=by grind
 have e1:(((L t).length:Int)==0)=false:=by simp;exact h0
 rw[e1,Af h0,Ad,Ad];have s1:sub t 1 ((L t).length:Int)=some (t.extract 1 (L t).length):=Fc t (i:=1) (by omega)<|Az _;have s0:sx t 0=some ((L t)[0].toNat:Int):=EZ t (i:=0) a;rw[s1,s0];simp only[Aa];generalize hx:t.extract 1 (L t).length=x;have b:(L x).length<=1048576:=by rw[<-hx,Ie];simp;omega
 obtain⟨li,oi,ls,os,pi,ki,ps,ks,a1,a2,a3,a4,a5⟩:=ABv x b;rw[a1,a2];simp only[Aa];rw[a3,a4];simp only[Aa];have back:∀j:ByteArray,∃u ok,((EU j).bind λv3=>(cond (!v3.2) (some true) (some<|!(seq v3.1 t)):Option Bool).bind λj2=>cond j2 (some (bs [],false)) (some (j,true)):Option (ByteArray×Bool))=some (u,ok)/\
   ((Ma j).bind λv3=>(cond (!v3.2) (some true) (some<|!(seq v3.1 t)):Option Bool).bind λj2=>cond j2 (some (bs [],false)) (some (j,true)):Option (ByteArray×Bool))=some (u,ok)/\(ok=false->u=bs [])/\(ok=true->(L u).length<=64/\((L t)[0].toNat=122\/(L t)[0].toNat=114)):=by
  intro j;obtain⟨z,ok,p1,p2,p3,p4⟩:=YJ j;rw[p1,p2];simp only[Aa]
  cases ok with
  |false=>simp
  |true=>
   simp only[An,Ad,Aa]
   cases hz:seq z t with
   |false=>simp
   |true=>
    have c:z=t:=by rw[JZ,A6]at hz;exact hz
    obtain⟨p5,p6⟩:=p4 rfl;refine⟨_,true,rfl,rfl,by simp,λ_=>⟨p5,?_⟩⟩;rw[c,Ab a]at p6
    rcases p6 with p6|p6
    ·simp_all
    simp_all
 by_cases h122:(L t)[0].toNat=122
 ·have c1:((((L t)[0].toNat:Nat):Int)==122)=true:=by simp[h122]
  have c2:((((L t)[0].toNat:Nat):Int) !=114)=true:=by simp[h122]
  rw[c1,c2];simp only[Ai]
  rcases a5 with⟨rfl,rfl,rfl⟩|⟨hi,hs⟩
  ·cases oi with
   |false=>simp
   |true=>
    cases ki with
    |false=>simp
    |true=>simp_all
  grind
 have c1:((((L t)[0].toNat:Nat):Int)==122)=false:=by simp;omega
 rw[c1];simp only[Ad,Aa,Cq];by_cases h114:(L t)[0].toNat=114
 ·simp_all
 have c2:((((L t)[0].toNat:Nat):Int) !=114)=true:=by simp;omega
 rw[c2];simp only[Ai];have nope:∀(j u:ByteArray) (ok:Bool),(ok=true->(L u).length<=64/\((L t)[0].toNat=122\/(L t)[0].toNat=114))->ok=false:=by grind
 obtain⟨u,ok,b1,b2,b3,b4⟩:=back x;have k1:=nope x u ok b4;subst k1;have k2:=b3 rfl;subst k2;refine⟨bs [],false,b1,?_,by simp,by simp⟩
 cases oi with
 |false=>rfl
 |true=>
  cases ki with
  |false=>rfl
  |true=>
   simp only[An,Ad,Aa,Cq];obtain⟨u,ok,d1,d2,d3,d4⟩:=back pi
   grind
def V6 (x:Bq):Nat:=x.Kids.length
def Z7 (x:Arena):Nat:=zl V6 x.Knots
def JW (x:Store):Nat:=x.Vols.length+Z7 x.Arena
def Nw (x:Device):Nat:=Oc x.Flash+JW x.Store
def PY (x:Leaf):Nat:=bif x.Is==0 then 1 else 0
theorem ACu (l:List Leaf):(l.map PY).sum<=l.length:=by
 induction l with
 |nil=>simp
 |cons x l ih=>
  have:PY x<=1:=by unfold PY;grind
  grind
theorem XI (b:Block) (h:b.Leaves.length<=1048576):IG b=some ((b.Leaves.map PY).sum:Int):=by
 unfold IG;obtain⟨v,h1,rfl⟩:=AG (body:=λs:Int×Int=>Hq b s.1 s.2) (λ(s:Int) i=>(s,i)) b.Leaves.length (λk s=>s=(((b.Leaves.take k).map PY).sum:Nat)) (λv=>v=((b.Leaves.map PY).sum:Nat))
  (λs k hk hs=>by
   have hx:b.Leaves[k]?=some b.Leaves[k]:=Ab hk;have e:=Sk PY b.Leaves k hk;have e2:=OQ PY b.Leaves<|k+1;have e3:=ACu b.Leaves;refine .inl ?_;simp only[Hq,DH hk,Au,hx,Aa];have e4:PY b.Leaves[k]=bif b.Leaves[k].Is==0 then 1 else 0:=rfl
   cases hb:b.Leaves[k].Is==0 with
   |true=>
    rw[ad1,Cw]
    grind
   |false=>
    rw[ad1]
    grind)
  (λs hs=>⟨s,by simp only[Hq,Dy],by grind⟩) (s:=0) (by simp)
 rw[h1];rfl
theorem XK (f:Flash) (hf:Kh f) (hn:nl f.Blocks<=1048576):∃v:Int,MF f=some v/\OA f=some v/\0<=v/\v<=nl f.Blocks:=by
 unfold MF OA;obtain⟨v,h1,h2,h3⟩:=MR (body:=λs:Int×Int=>ME f s.1 s.2) (body':=λs:Int×Int=>MX f s.1 s.2) (λ(s:Int) i=>(s,i)) (λ(s:Int) i=>(s,i)) f.Blocks.length (λi n=>0<=n/\n<=(((f.Blocks.take i).map λb=>b.Leaves.length).sum:Nat)) (λv=>0<=v/\v<=nl f.Blocks)
  (λn i hi hs=>by
   have hb:f.Blocks[i]?=some f.Blocks[i]:=Ab hi;have hm:f.Blocks[i]∈f.Blocks:=Aw _;have d:=Sk (λb:Block=>b.Leaves.length) f.Blocks i hi;have g:=OQ (λb:Block=>b.Leaves.length) f.Blocks<|i+1;unfold nl at hn;have h:=hf.1;have c:=hf.2 _ hm;have j:=ACu f.Blocks[i].Leaves;refine .inl ?_;simp only[ME,MX,DH hi,Au,hb,Aa,XI _ c];obtain⟨u,q1,rfl⟩:=AG (body:=λs:Int×Int=>MD f (i:Int) s.1 s.2) (λ(s:Int) i=>(s,i)) f.Blocks[i].Leaves.length (λk s=>s=n+(bif f.Blocks[i].Bad then 0 else((f.Blocks[i].Leaves.take k).map PY).sum:Nat)) (λv=>v=n+(bif f.Blocks[i].Bad then 0 else(f.Blocks[i].Leaves.map PY).sum:Nat))
    (λs k hk hs=>by
     have hx:f.Blocks[i].Leaves[k]?=some f.Blocks[i].Leaves[k]:=Ab hk;have e:=Sk PY f.Blocks[i].Leaves k hk;have e2:=OQ PY f.Blocks[i].Leaves<|k+1;refine .inl ?_;simp only[MD,Au,hb,Aa,DH hk,hx]
     cases a:f.Blocks[i].Bad with
     |true=>
      rw[a]at hs;simp only[An,Ad,Ai]at hs⊢;rw[ad1]
      grind
     |false=>
      rw[a]at hs;simp only[Ck,Ad,Ai]at hs⊢;have e4:PY f.Blocks[i].Leaves[k]=bif f.Blocks[i].Leaves[k].Is==0 then 1 else 0:=rfl
      cases hb:f.Blocks[i].Leaves[k].Is==0 with
      |true=>
       rw[hb]at e4;simp only[Ai]at e4⊢;rw[ad1,Cw]
       grind
      |false=>
       rw[hb]at e4;simp only[Ad]at e4⊢;rw[ad1]
       grind)
    (λs hs=>⟨s,by simp only[MD,Au,hb,Aa,Dy],by grind⟩) (s:=n) (by grind)
   rw[q1];simp only[Aa]
   cases f.Blocks[i].Bad with
   |true=>
    simp only[Ai,An,Ad];rw[ad1]
    grind
   |false=>
    simp only[Ai,Ck,Ad];rw[ad1,Cw]
    grind)
  (λn hs=>by
   rw[Dr]at hs
   exact⟨n,by simp only[ME,Dy],by simp only[MX,Dy],hs⟩) (s:=0) (by simp)
 grind
end Go.TI
