/- What is served is what is planned. No condition; no program is in sight. -/
import Derived.Test.YtiaanofedbfeeaaGreatSVD
set_option linter.unusedVariables false
set_option linter.unusedSimpArgs false
namespace Go.TI
open Go
def u32 (s:Int):Prop:=0<=s/\s<4294967296
theorem sO (s:Int) (hs:u32 s):∃v,Ap (λs:Int×Int=>IU s.1 s.2) (s,0)=some v/\Ap (λs:Int×Int=>Jf s.1 s.2) (s,0)=some v/\u32 v:=
 I6 (body:=λs:Int×Int=>IU s.1 s.2) (body':=λs:Int×Int=>Jf s.1 s.2) (λ(s:Int) i=>(s,i)) 8 (λ_ s=>u32 s) u32
  (λs i hi hs=>by
   simp only[IU,Jf];rw[Ad (by omega:(i:Int)<8),Ae,Ae,an1 hs.1 hs.2,<-AD1 hs.1 hs.2];refine⟨rfl,.inl ?_⟩;have hw:u32 (IntKind.u32.wrap<|Int.tdiv s 2):=by rw[IntKind.wrap_u32];constructor<;>omega
   cases Int.tmod s 2==1
   ·exact⟨_,by rw[Ac,ad1],hw⟩
   exact⟨_,by rw[Ae,ad1],ACB _ _⟩)
  (λs hs=>by
   simp only[IU,Jf]
   grind) (s:=s) hs
theorem sN (s:Int) (t:ByteArray) (hs:u32 s) (ht:(L t).length<=9223372036854775806):∃v,SQ s t=some v/\Th s t=some v/\u32 v:=by
 obtain⟨v,h1,h2,h3⟩:=I6 (body:=λs:Int×Int=>K2 t s.1 s.2) (body':=λs:Int×Int=>KO t s.1 s.2) (λ(s:Int) i=>(s,i)) (L t).length (λ_ s=>u32 s) u32
  (λs i hi hs=>by
   obtain⟨v,h1,h2,h3⟩:=sO (xr s<|IntKind.u32.wrap ((L t)[i]).toNat)<|ACB _ _;simp only[K2,KO];rw[Ad (by rw[B8];omega:(i:Int)<FO t),Ae,Ae,Fk t hi,Aa,Aa,h1,h2]
   exact⟨rfl,.inl ⟨v,by rw[Aa,ad1],h3⟩⟩)
  (λs hs=>by
   simp only[K2,KO];rw[Af (by rw[B8];omega:¬((L t).length:Int)<FO t),Ac,Ac]
   grind) (s:=s) hs
 unfold SQ Th
 grind
theorem pC (t:ByteArray) (ht:(L t).length<=9223372036854775806):∃v,OA t=some v/\YE t=some v/\u32 v:=by
 obtain⟨v,h1,h2,h3⟩:=sN 4294967295 t ⟨by omega,by omega⟩ ht;unfold OA YE
 grind
def four (v:Int):ByteArray:=Fl [IntKind.u8.wrap<|Int.fdiv v<|2^(min (24:Int).toNat IntKind.u32.bits),IntKind.u8.wrap<|Int.fdiv v<|2^(min (16:Int).toNat IntKind.u32.bits),IntKind.u8.wrap<|Int.fdiv v<|2^(min (8:Int).toNat IntKind.u32.bits),IntKind.u8.wrap v]
theorem Wd (v:Int):(L (four v)).length=4:=by rfl
theorem gZ (t:ByteArray):IE t=K5 t:=by
 unfold IE K5;by_cases h:(FO t)>20000
 ·grind
 rw[Af h,Ac,Ac];rw[B8]at h;obtain⟨v,h1,h2,_⟩:=pC t (by omega);rw[h1,h2];rfl
theorem T3 (t:ByteArray):(20000<(L t).length->K5 t=some (bs [],false))/\((L t).length<=20000->∃v,OA t=some v/\K5 t=some (t++four v,true)):=by
 unfold K5;rw[B8];refine⟨λh=>by rw[cT],λh=>?_⟩;obtain⟨v,h1,h2,_⟩:=pC t (by omega);rw[cF,h1];refine⟨v,rfl,?_⟩;have:L4 v=some (four v):=rfl;rw[Aa,this,Aa,FV _ _ (by rw[Wd];omega),Aa]
theorem o9 (t:ByteArray) (ht:(L t).length<=9223372036854775806):∃u ok,L6 t=some (u,ok)/\QE t=some (u,ok)/\(ok=true->(L u).length<=20000/\∃v,OA u=some v/\t=u++four v)/\(ok=false->u=bs []):=by
 unfold L6 QE;have e4:sb (FO t) 4=((L t).length:Int)-4:=by rw[B8,Cm]
 rw[e4];by_cases h4:(L t).length<4
 ·rw[Ad (by omega:((L t).length:Int)-4<0),Ad (by rw[B8];omega:FO t<4)]
  grind
 rw[Af (by omega:¬((L t).length:Int)-4<0),Af (by rw[B8];omega:¬FO t<4)];simp only[Ac];have en:((L t).length:Int)-4=(((L t).length-4:Nat):Int):=by omega
 rw[en,B8];have b:sub t 0 (((L t).length-4:Nat):Int)=some (t.extract 0<|(L t).length-4):=FM t (i:=0) (by omega) (by omega);have a:sub t (((L t).length-4:Nat):Int) ((L t).length:Int)=some (t.extract ((L t).length-4) (L t).length):=FM t (by omega) (by omega);rw[b,a];simp only[Aa];have hu:(L<|t.extract 0<|(L t).length-4).length=(L t).length-4:=by rw[IR];simp
 obtain⟨k1,k2⟩:=T3<|t.extract 0<|(L t).length-4;rw[gZ];by_cases hb:20000<(L t).length-4
 ·grind
 obtain⟨v,h1,h2⟩:=k2 (by omega);rw[Af (by omega:¬(((L t).length-4:Nat):Int)>20000),h1,h2];have h3:L4 v=some (four v):=rfl;simp only[Ac,Aa,h3,Ah];have c:seq (t.extract ((L t).length-4) (L t).length) (four v)=seq (t.extract 0 ((L t).length-4)++four v) t:=by
  rw[Rt,Rt,DZ,IR,IR,DR,A6,A6];have e1:List.take ((L t).length-((L t).length-4)) (List.drop ((L t).length-4)<|L t)=(L t).drop ((L t).length-4):=AM (by simp);have e2:List.take ((L t).length-4-0) (List.drop 0<|L t)=(L t).take ((L t).length-4):=by simp
  rw[e1,e2];constructor
  ·intro h;rw[<-h,Ch]
  grind
 rw[c]
 cases hs:seq (t.extract 0 ((L t).length-4)++four v) t with
 |false=>grind
 |true=>
  rw[Jq,A6]at hs
  grind
theorem Ja (n:Nat) (h:n<=1099511627776):∃s,H5 (n:Int)=some s/\L s=Cs n:=by
 unfold H5;obtain⟨m,o,h1,h2,h3,h4⟩:=gM (body:=λs:Int×List Int=>O9 s.1 s.2) (λ_ _=>rfl) n [] (by simpa using h);rw[h1,Aa];have:IntKind.u8.wrap (m:Int)=m:=by rw[IntKind.wrap_u8];omega
 rw[this,BS (by grind),Aa];refine⟨_,rfl,?_⟩;rw[LX,h4];simp
def ACH (t:ByteArray) (at_:Int) (r:Int×Int×Bool):Prop:=(r.2.2=false/\r.1=0/\r.2.1=0)\/(r.2.2=true/\∃(a b n:Nat),at_=a/\r.2.1=b/\r.1=n/\a<b/\b<=(L t).length/\n<=1000000000/\Cs n=((L t).drop a).take (b-a))
theorem Zg (l:List UInt8) (a k:Nat) (h:a+k<l.length):(l.drop a).take (k+1)=(l.drop a).take k++ [l[a+k]]:=by
 rw[Ao (by simp;omega),UY]
theorem jI (k:Nat) (h:k<5):(128:Nat)^k<=268435456:=by
 have:k<=4:=by omega
 calc 128^k<=128^4:=Nat.pow_le_pow_right (by omega) this
  _=268435456:=by decide
theorem Y0:∀ds:List UInt8,Fx ds<128^ds.length
 |[]=>by simp[Fx]
 |d::ds=>by
  have:=Y0 ds;simp only[Fx,A7,Yt];omega
theorem ABy (x k:Nat) (hx:x<128) (hk:k<5):shl .i64 (x:Int) (ml 7 (k:Int))=some ((x*128^k:Nat):Int):=by
 have h7:ml 7 (k:Int)=((7*k:Nat):Int):=by rw[PH (by omega)<|by omega];omega
 unfold shl;rw[h7,Av<|by omega];have e:(2:Int)^(min ((7*k:Nat):Int).toNat IntKind.i64.bits)=((128^k:Nat):Int):=by
  have hb:IntKind.i64.bits=64:=rfl;have h128:(128:Nat)^k=2^(7*k):=by rw[Nat.pow_mul]
  grind
 rw[e];have hp:=jI k hk;have hm:x*128^k<=128*268435456:=eD (by omega) hp;have ec:(x:Int)*((128^k:Nat):Int)=((x*128^k:Nat):Int):=by norm_cast
 rw[ec,Px (by omega)<|by omega]
theorem iC (x:Nat):Int.tmod (x:Int) 128=((x %128:Nat):Int):=rfl
theorem IN (t:ByteArray) (at_:Int) (ht:(L t).length<=4611686018427387904) (o:oI at_):∃r,Ke t at_=some r/\Kl t at_=some r/\ACH t at_ r:=by
 have fails:∀(at_:Int),(at_<0\/((L t).length:Int)<=at_)->oI at_->Kl t at_=some (0,0,false):=by
  intro at_ h o;unfold Kl;rw[A0];simp only[H3];rw[cT];by_cases h0:at_>=0
  ·rw[Ad h0,Ae,B8,Cm,Af<|by omega];rfl
  grind
 by_cases h4:0<=at_/\at_<(L t).length
 ·obtain⟨a,rfl⟩:=Cv h4.1;have ha:a<(L t).length:=by omega
  have h5:∀(B1:Int×Int×Int->Option ((Int×Int×Int)⊕Unit⊕(Int×Int×Bool))) (B2:Int×Int->Option ((Int×Int)⊕Unit⊕(Int×Int×Bool))),(∀n sc i,B1 (n,sc,i)=DP t (a:Int) n sc i)->(∀n k,B2 (n,k)=H3 t (a:Int) n k)->∀(m k:Nat),k+m=5->a+k<=(L t).length->(∀d∈((L t).drop a).take k,128<=d.toNat)->
    ∃r,(Ap B1 (((Fx (((L t).drop a).take k):Nat):Int),((128^k:Nat):Int),((a+k:Nat):Int))=some r/\Ap B2 (((Fx (((L t).drop a).take k):Nat):Int),(k:Int))=some r)/\(r= .inl ()\/∃q,r= .inr q/\ACH t (a:Int) q):=by
   intro B1 B2 p u m
   induction m with
   |zero=>
    intro k hk h6 hd;have f:k=5:=by omega
    subst f;refine⟨.inl (),⟨?_,?_⟩,.inl rfl⟩
    ·rw[A0];simp only[p,DP];rw[Cy,Af (by omega:¬((a+5:Nat):Int)<(a:Int)+5)]
     grind
    rw[A0];simp only[u,H3];rfl
   |succ m ih=>
    intro k hk h6 hd;rw[A0,A0 B2];simp only[p,u,DP,H3];have f:k<5:=by omega
    rw[Cy (b:=5) (by omega) (by omega),Ad (by omega:((a+k:Nat):Int)<(a:Int)+5),Ad (by omega:(k:Int)<5),Ad (by omega:(a:Int)>=0),B8,Cm];by_cases v:a+k<(L t).length
    ·rw[Ad (by omega:((a+k:Nat):Int)<((L t).length:Int)),Ad (by omega:(a:Int)<((L t).length:Int)-k)];have eak:ad (a:Int) (k:Int)=((a+k:Nat):Int):=by rw[Cy];omega
     simp only[Ae,Aa,Fk t v,eak];have hx:=lT<|(L t)[a+k];have j:=Zg (L t) a k v;have w:(((L t).drop a).take k).length=k:=by simp;omega
     have g:=O5 (((L t).drop a).take k) [(L t)[a+k]];rw[<-j,w]at g;have h7:=Y0<|((L t).drop a).take k;rw[w]at h7;have hp:=jI k f;generalize a4:(L t)[a+k]=x at hx j g;simp only[Fx,Nat.mul_zero,HT]at g;have hw:IntKind.i64.wrap (x.toNat:Int)=x.toNat:=Px (by omega) (by omega);have a2:x.toNat %128*128^k<=127*268435456:=eD (by omega) hp;have emul:ml ((x.toNat %128:Nat):Int) ((128^k:Nat):Int)=((x.toNat %128*128^k:Nat):Int):=by
      have ec:((x.toNat %128:Nat):Int)*((128^k:Nat):Int)=((x.toNat %128*128^k:Nat):Int):=by norm_cast
      rw[PH (by rw[ec];omega) (by rw[ec];omega),ec]
     have enew:ad (((Fx (((L t).drop a).take k):Nat)):Int) ((x.toNat %128*128^k:Nat):Int)=((Fx (((L t).drop a).take<|k+1):Nat):Int):=by
      rw[Cy,g,sU<|128^k];omega
     rw[hw,iC,ABy _ k (by omega) f];simp only[Aa,emul,enew];by_cases l:x.toNat<128
     ·rw[Ad (by omega:(x.toNat:Int)<128),Af (by omega:¬(x.toNat:Int)>=128)];simp only[Ae,Ac];have ek1:ad ((a+k:Nat):Int) 1=((a+k+1:Nat):Int):=ad1 (by omega);have c:=gL (((L t).drop a).take k) x hd l;rw[<-j]at c;have h8:(((L t).drop a).take k≠ [])↔0<k:=by grind
      rw[h8]at c;have y:sub t (a:Int) ((a+k+1:Nat):Int)=some (t.extract a<|a+k+1):=FM t (by omega) (by omega);rw[ek1,y];by_cases a3:Fx (((L t).drop a).take<|k+1)>1000000000
      ·rw[Ad (by omega:((Fx (((L t).drop a).take<|k+1):Nat):Int)>1000000000)];refine⟨.inr (0,0,false),⟨rfl,?_⟩,.inr ⟨_,rfl,.inl ⟨rfl,rfl,rfl⟩⟩⟩
       grind
      rw[Af (by omega:¬((Fx (((L t).drop a).take<|k+1):Nat):Int)>1000000000)];obtain⟨s,h9,a0⟩:=Ja (Fx<|((L t).drop a).take<|k+1) (by omega);simp only[Ac,Aa,h9];have z:seq s (t.extract a<|a+k+1)=decide (¬(x.toNat=0/\0<k)):=by
       rw[Rt,a0,IR,show a+k+1-a=k+1 by omega,DR,A6,A6];exact c
      rw[z];by_cases hz:x.toNat=0/\0<k
      ·rw[Af λe=>e hz];refine⟨.inr (0,0,false),⟨rfl,?_⟩,.inr ⟨_,rfl,.inl ⟨rfl,rfl,rfl⟩⟩⟩
       grind
      rw[Ad hz];refine⟨.inr (((Fx (((L t).drop a).take<|k+1):Nat):Int),((a+k+1:Nat):Int),true),⟨rfl,?_⟩,.inr ⟨_,rfl,.inr ⟨rfl,a,a+k+1,_,rfl,rfl,rfl,by omega,by omega,by omega,?_⟩⟩⟩
      ·by_cases a1:x.toNat=0
       ·have:((x.toNat:Int)==0)=true:=by rw[a1];rfl
        rw[this,Af (by omega:¬(k:Int)>0)];rfl
       grind
      rw[show a+k+1-a=k+1 by omega];exact c.2 hz
     rw[Af (by omega:¬(x.toNat:Int)<128),Ad (by omega:(x.toNat:Int)>=128)];simp only[Ae,Ac];have e1:ml ((128^k:Nat):Int) 128=((128^(k+1):Nat):Int):=by
      rw[PH (by omega) (by omega),Yt];norm_cast
     have e2:ad ((a+k:Nat):Int) 1=((a+(k+1):Nat):Int):=ad1 (by omega);have e3:ad (k:Int) 1=((k+1:Nat):Int):=ad1 (by omega);rw[e1,e2,e3];exact ih (k+1) (by omega) (by omega)<|by grind
    rw[Af (by omega:¬((a+k:Nat):Int)<((L t).length:Int)),Af (by omega:¬(a:Int)<((L t).length:Int)-k)];simp
  obtain⟨r,⟨h1,h2⟩,h3⟩:=h5 (λs=>DP t (a:Int) s.1 s.2.1 s.2.2) (λs=>H3 t (a:Int) s.1 s.2) (λ_ _ _=>rfl) (λ_ _=>rfl) 5 0 rfl (by omega) (by simp);unfold Ke Kl;have hw:BR (a:Int) 0 (FO t)=some true:=by
   unfold BR;rw[cT,B8,Ad<|by omega]
  rw[hw];simp only[Aa,Ah,Ac];simp only[Jj,Fx,Nat.pow_zero,HT]at h1 h2;rw[show((0:Nat):Int)=0 from rfl,show((1:Nat):Int)=1 from rfl]at h1;rw[show((0:Nat):Int)=0 from rfl]at h2;rw[h1,h2]
  rcases h3 with rfl|⟨q,rfl,h3⟩
  ·exact⟨_,rfl,rfl,.inl ⟨rfl,rfl,rfl⟩⟩
  grind
 have hf:=fails at_ (by omega) o;refine⟨(0,0,false),?_,hf,.inl ⟨rfl,rfl,rfl⟩⟩;unfold Ke;by_cases h0:0<=at_/\at_<=(L t).length
 ·have hw:BR at_ 0 (FO t)=some true:=by
   unfold BR;rw[cT,B8,Ad<|by omega]
  rw[hw];simp only[Aa,Ah,Ac];rw[A0];simp only[DP];rw[Af (by rw[B8];omega:¬at_<FO t)];rfl
 have hw:BR at_ 0 (FO t)=some false:=by
  unfold BR;by_cases h1:at_>=0
  ·rw[Ad h1,Ae,B8,Af<|by omega]
  grind
 rw[hw];rfl
theorem bC:GK=BR:=rfl
variable {r n x:Int} {R:List Int} {i s j:Nat} {α γ:Type} {p:Nat->Bool} {l:List α}
theorem Da {i:Int} {x:α} (h:gi l i=some x):0<=i/\l[i.toNat]?=some x:=by
 unfold gi at h;split at h
 ·exact⟨by assumption,h⟩
 cases h
theorem QX:NF=Ge:=by
 have h2:N1=EF:=by
  funext x y;unfold N1 EF
  cases decide (y<ln x.Leaves)with
  |false=>rfl
  |true=>
   simp only[Ae]
   cases gi x.Leaves y with
   |none=>rfl
   |some z=>rfl
 funext f;unfold NF Ge;have:N2 f=EG f:=by
  funext i;unfold N2 EG;rw[h2];rfl
 rw[this];rfl
def JR (f:Flash):Prop:=f.Blocks.length<=1048576/\∀b∈f.Blocks,b.Leaves.length<=1048576
theorem Rv (x a b:Int):BR x a b=some (decide (a<=x)&&decide (x<=b)):=by
 unfold BR;by_cases h:x>=a
 ·rw[Ad h,Ae,CZ]
 rw[Af h,Ac,Bool.false_and]
theorem ABY (x:Leaf):∃v,NA x=some v:=by
 unfold NA;cases x.Is==0
 ·simp only[Ac];cases x.Is==1
  ·simp only[Ac];cases x.Is==2<;>exact⟨_,rfl⟩
  simp only[Ae,Rv,Aa];exact⟨_,rfl⟩
 exact⟨_,rfl⟩
theorem UT (f:Flash) (h:JR f):∃v,Ge f=some v/\(v=true->f.Blocks.length<=10/\∀b∈f.Blocks,b.Leaves.length=4):=by
 have a:=AP (body:=λs:Int=>EG f s) (λ(_:Unit) i=>i) f.Blocks.length (λi _=>∀j b,j<i->f.Blocks[j]?=some b->b.Leaves.length=4) (λr=>r= .inr false\/r= .inl ()/\∀b∈f.Blocks,b.Leaves.length=4)
  (λs i hi hs=>by
   obtain⟨x,hx⟩:∃x,f.Blocks[i]?=some x:=⟨_,Ab hi⟩;have hM:=h.1;have hL:=h.2 x<|Ar hx;simp only[EG,Ev hi,Aw,hx,Aa,Rv];by_cases h4:x.Leaves.length=4
   ·have e1:(ln x.Leaves !=4)=false:=by simp[ln,h4]
    simp only[e1,Ac,Aa]
    cases hw:(decide (0<=x.Wear)&&decide (x.Wear<=1000000000))with
    |false=>exact .inr ⟨_,rfl,.inl rfl⟩
    |true=>
     simp only[Ah,Ac];obtain⟨r,h5,h6⟩:=AP (body:=λs:Int=>EF x s) (λ(_:Unit) i=>i) x.Leaves.length (λ_ _=>True) (λr=>r= .inl ()\/r= .inr (.inr<|.inr false))
      (λs k hk _=>by
       obtain⟨y,hy⟩:∃y,x.Leaves[k]?=some y:=⟨_,Ab hk⟩;obtain⟨v,hv⟩:=ABY y;simp only[EF,Ev hk,Aw,hy,Aa,hv];have fin:∀j:Bool,(∃s':Unit,(bif j then some (.inr<|.inr<|.inr<|.inr false)else some (.inl<|ad (k:Int) 1):Option (Int⊕Unit⊕Int⊕Unit⊕Bool))=some (.inl (((k+1:Nat)):Int))/\True)\/∃b,(bif j then some (.inr<|.inr<|.inr<|.inr false)else some (.inl<|ad (k:Int) 1):Option (Int⊕Unit⊕Int⊕Unit⊕Bool))=some (.inr b)/\(b= .inl ()\/b= .inr (.inr<|.inr false)):=by
        intro j
        cases j with
        |true=>exact .inr ⟨_,rfl,.inr rfl⟩
        |false=>exact .inl ⟨(),by rw[Ac,ad1],trivial⟩
       cases v with
       |false=>exact fin true
       |true=>
        simp only[Ah,Ac];by_cases c:0<k
        ·rw[cT,Cm,KX (by omega) (by omega),Aa];cases(x.Leaves[((k:Int)-1).toNat]'(by omega)).Is==0
         ·exact fin false
         exact fin<|y.Is !=0
        rw[Af (by omega:¬(k:Int)>0)]
        exact fin false)
      (λs _=>⟨_,by simp only[EF,DT],.inl rfl⟩) (s:=()) trivial
     rw[h5,Aa]
     rcases h6 with rfl|rfl
     ·refine .inl ⟨(),by rw[Bw,ad1],?_⟩;intro j b hj hb;by_cases e:j=i
      ·subst e;rw[hx]at hb;injection hb with hb;rw[<-hb];exact h4
      exact hs j b (by omega) hb
     exact .inr ⟨_,rfl,.inl rfl⟩
   have e1:(ln x.Leaves !=4)=true:=by simp[ln];omega
   simp only[e1,Ae,Aa]
   exact .inr ⟨_,rfl,.inl rfl⟩)
  (λs hs=>⟨_,by simp only[EG,DT],.inr ⟨rfl,λb hb=>by
   obtain⟨j,hj,e⟩:=AC hb
   exact hs j b hj (by rw[<-e];exact Ab hj)⟩⟩) (s:=()) (λj b hj=>absurd hj<|by omega)
 obtain⟨r,h1,h2⟩:=a;unfold Ge;rw[h1,Aa]
 rcases h2 with rfl|⟨rfl,h2⟩
 ·exact⟨false,rfl,by simp⟩
 simp only[Bw,Rv,Aa];refine⟨_,rfl,λe=>⟨?_,h2⟩⟩;rw[Aj,A6,A6,Bz]at e;omega
theorem T5 (p:Page):∃v,K8 p=some v/\Sz p=some v/\(v=true->(p.Kind=1\/p.Kind=2)/\(1<=p.Seq/\p.Seq<=1000000000)/\(1<=p.Tx/\p.Tx<=1000000000)/\(1<=p.Count/\p.Count<=9)/\(0<=p.Part/\p.Part<p.Count)/\FO p.Text<=90):=by
 unfold K8 Sz;rw[bC];simp only[Rv,Aa];by_cases h1:1<=p.Seq/\p.Seq<=1000000000
 ·by_cases h2:1<=p.Tx/\p.Tx<=1000000000
  ·by_cases h3:1<=p.Count/\p.Count<=9
   ·have e:sb p.Count 1=p.Count-1:=Cm (by omega) (by omega);rw[e];by_cases h4:0<=p.Part/\p.Part<=p.Count-1
    ·by_cases h5:FO p.Text>90
     ·refine⟨false,?_,?_,by simp⟩
      ·grind
      grind
     by_cases k2:p.Kind=2
     ·exact⟨true,by grind,by grind,λ_=>⟨.inr k2,h1,h2,h3,⟨h4.1,by omega⟩,by omega⟩⟩
     by_cases k1:p.Kind=1
     ·exact⟨p.Count==1,by grind,by grind,λ_=>⟨.inl k1,h1,h2,h3,⟨h4.1,by omega⟩,by omega⟩⟩
     have hk:(decide (1<=p.Kind)&&decide (p.Kind<=2))=false:=by grind
     have e1:(p.Kind==1)=false:=by simpa using k1
     have e2:(p.Kind==2)=false:=by simpa using k2
     exact⟨false,by simp[hk],by grind,by simp⟩
    have e4:(decide (0<=p.Part)&&decide (p.Part<=p.Count-1))=false:=by grind
    refine⟨false,?_,?_,by simp⟩
    ·grind
    grind
   have e3:(decide (1<=p.Count)&&decide (p.Count<=9))=false:=by grind
   refine⟨false,?_,?_,by simp⟩
   ·grind
   simp[h1,h2,e3]
  have e2:(decide (1<=p.Tx)&&decide (p.Tx<=1000000000))=false:=by grind
  refine⟨false,?_,?_,by simp⟩
  ·grind
  simp[h1,e2]
 have e1:(decide (1<=p.Seq)&&decide (p.Seq<=1000000000))=false:=by grind
 refine⟨false,?_,?_,by simp⟩
 ·grind
 simp[e1]
def fU:Page:=Page.mk 0 0 0 0 0<|bs []
theorem Hz (u:ByteArray) (a:Int) (hu:(L u).length<=20000) (ha:oI a):Ds (E9.mk u a true)=some (0,E9.mk u a true):=by
 obtain⟨r,h1,_,_⟩:=IN u a (by omega) ha;unfold Ds
 grind
theorem Ki {r:Int×Int×Bool} (u:ByteArray) (a:Int) (hu:(L u).length<=20000) (h:Ke u a=some r):Ds (E9.mk u a false)=some (cond r.2.2 (r.1,E9.mk u r.2.1 false) (0,E9.mk u a true)):=by
 unfold Ds
 grind
theorem Rd {a b:Nat} (l:List UInt8) (h:a<=b):l.drop a=(l.drop a).take (b-a)++l.drop b:=by
 have:=(Ch (b-a)<|l.drop a).symm;rw[CH,show a+(b-a)=b by omega]at this;exact this
theorem Yd (p:Page) (u:ByteArray) (k:UInt8) (n1 n2 n3 n4:Nat) (hp:K8 p=some true) (hk:p.Kind=(k.toNat:Int)) (h1:p.Seq=n1) (h2:p.Tx=n2) (h3:p.Part=n3) (h4:p.Count=n4) (b1:n1<=1000000000) (b2:n2<=1000000000) (b3:n3<=1000000000) (b4:n4<=1000000000) (hu:(L u).length<=20000) (e:L u=[k]++Cs n1++Cs n2++Cs n3++Cs n4++L p.Text):E8 p=K5 u:=by
 obtain⟨s1,q1,r1⟩:=Ja n1 (by omega);obtain⟨s2,q2,r2⟩:=Ja n2 (by omega);obtain⟨s3,q3,r3⟩:=Ja n3 (by omega);obtain⟨s4,q4,r4⟩:=Ja n4 (by omega);have hl:=BE List.length e;simp only[Ai,A8]at hl;have hb:JY p.Kind=some (Fl [IntKind.u8.wrap p.Kind]):=rfl;have a:L (Fl [IntKind.u8.wrap p.Kind])=[k]:=by
  rw[LX,hk,IntKind.wrap_u8];have:=lT k;have e2:((k.toNat:Int) %256).toNat=k.toNat:=by omega
  simp only[BJ,sV,e2,UInt8.ofNat_toNat]
 unfold E8;rw[hp];simp only[Aa,Ah,Ac,hb,h1,h2,h3,h4,q1,q2,q3,q4];rw[FV _ _ (by grind),Aa,FV _ _ (by rw[DZ,a,r1,r2];grind),Aa,FV _ _ (by rw[DZ,DZ,a,r1,r2,r3];grind),Aa,FV _ _ (by rw[DZ,DZ,DZ,a,r1,r2,r3,r4];grind),Aa,FV _ _ (by rw[DZ,DZ,DZ,DZ,a,r1,r2,r3,r4];grind),Aa];have:Fl [IntKind.u8.wrap p.Kind]++s1++s2++s3++s4++p.Text=u:=by
  apply Lg;rw[DZ,DZ,DZ,DZ,DZ,a,r1,r2,r3,r4,e]
 rw[this]
 cases K5 u with
 |none=>rfl
 |some v=>rfl
theorem IP (t:ByteArray) (ht:(L t).length<=9223372036854775806):∃p ok,F9 t=some (p,ok)/\QL t=some (p,ok)/\(ok=false->p=fU)/\(ok=true->K8 p=some true):=by
 obtain⟨u,uok,j,k,m,n⟩:=o9 t ht;unfold F9 QL;rw[j,k];simp only[Aa];have o1:oI 1:=⟨by omega,by omega⟩
 cases uok with
 |false=>
  have:=n rfl;subst this;have hz:(L<|bs []).length<=20000:=by rw[EU];simp
  simp only[AD,Ae,Aa,Hz _ _ hz o1];exact⟨fU,false,rfl,rfl,λ_=>rfl,by simp⟩
 |true=>
  obtain⟨e,v,hv,o⟩:=m rfl;simp only[Ah,Ac,Aa];by_cases he:(L u).length<1
  ·have g:seq u (bs [])=true:=by
    rw[Rt,A6,EU]
    grind
   rw[Ad (by rw[B8];omega:FO u<1),g];simp only[Ae,Hz _ _ e o1,Aa];exact⟨fU,false,rfl,rfl,λ_=>rfl,by simp⟩
  have g:seq u (bs [])=false:=by
   rw[Rt,DH,EU]
   grind
  rw[Af (by rw[B8];omega:¬FO u<1),g];simp only[Ac];have four_:∀(B:Int×Int×Int×Int×Int×Int->Option ((Int×Int×Int×Int×Int×Int)⊕(Int×Int×Int×Int×Int)⊕(Page×Bool))),(∀x y a b c d,B (x,y,a,b,c,d)=EK (u,true) x y a b c d)->
    ∃(a:Int) (m1 m2 m3 m4:Int) (bad:Bool),(∃c1 c2 c3,Ds (E9.mk u 1 false)=some (m1,c1)/\Ds c1=some (m2,c2)/\Ds c2=some (m3,c3)/\Ds c3=some (m4,E9.mk u a bad))/\
     Ap B (1,0,0,0,0,0)=some (bif bad then .inr (fU,false)else .inl (a,m1,m2,m3,m4))/\(bad=false->∃(a1 a2 a3 a4 n1 n2 n3 n4:Nat),m1=n1/\m2=n2/\m3=n3/\m4=n4/\a=a4/\1<a1/\a1<a2/\a2<a3/\a3<a4/\a4<=(L u).length/\n1<=1000000000/\n2<=1000000000/\n3<=1000000000/\n4<=1000000000/\
      Cs n1=((L u).drop 1).take (a1-1)/\Cs n2=((L u).drop a1).take (a2-a1)/\Cs n3=((L u).drop a2).take (a3-a2)/\Cs n4=((L u).drop a3).take (a4-a3)):=by
   intro B hB;obtain⟨r1,p1,q1,w1⟩:=IN u 1 (by omega) o1;have g1:=Ki u 1 e p1;rw[A0,hB];unfold EK;rw[cT,q1,Aa]
   rcases w1 with⟨w1,w2,w3⟩|⟨w1,a0',a1,n1,z0,z1,z2,z3,z4,z5,z6⟩
   ·rw[w1]at g1⊢;exact⟨1,0,0,0,0,true,⟨_,_,_,g1,Hz u 1 e o1,Hz u 1 e o1,Hz u 1 e o1⟩,rfl,by simp⟩
   have ea0:a0'=1:=by omega
   subst ea0;rw[w1]at g1⊢;have x1:oI r1.2.1:=⟨by omega,by omega⟩;simp only[Ah,Ac,Ae]at g1⊢;rw[show((0:Int)==0)=true from rfl,Ae,show ad 0 1=1 from ad1 (i:=0)<|by omega];simp only;obtain⟨r2,p2,q2,y1⟩:=IN u r1.2.1 (by omega) x1;have g2:=Ki u r1.2.1 e p2;rw[A0,hB];unfold EK;rw[cT,q2,Aa]
   rcases y1 with⟨y1,_,_⟩|⟨y1,b0,a2,n2,y2,y3,y4,y5,y6,y7,y8⟩
   ·rw[y1]at g2⊢;exact⟨r1.2.1,r1.1,0,0,0,true,⟨_,_,_,g1,g2,Hz u _ e x1,Hz u _ e x1⟩,rfl,by simp⟩
   have eb:b0=a1:=by omega
   subst eb;rw[y1]at g2⊢;have x2:oI r2.2.1:=⟨by omega,by omega⟩;simp only[Ah,Ac,Ae]at g2⊢;rw[show((1:Int)==0)=false from rfl,Ac,show((1:Int)==1)=true from rfl,Ae,show ad 1 1=2 from ad1 (i:=1)<|by omega];simp only;obtain⟨r3,p3,q3,k1⟩:=IN u r2.2.1 (by omega) x2;have g3:=Ki u r2.2.1 e p3;rw[A0,hB];unfold EK;rw[cT,q3,Aa]
   rcases k1 with⟨k1,_,_⟩|⟨k1,c0,a3,n3,k2,k3,k4,k5,k6,k7,k8⟩
   ·rw[k1]at g3⊢;exact⟨r2.2.1,r1.1,r2.1,0,0,true,⟨_,_,_,g1,g2,g3,Hz u _ e x2⟩,rfl,by simp⟩
   have ec:c0=a2:=by omega
   subst ec;rw[k1]at g3⊢;have x3:oI r3.2.1:=⟨by omega,by omega⟩;simp only[Ah,Ac,Ae]at g3⊢;rw[show((2:Int)==0)=false from rfl,Ac,show((2:Int)==1)=false from rfl,Ac,show((2:Int)==2)=true from rfl,Ae,show ad 2 1=3 from ad1 (i:=2)<|by omega];simp only;obtain⟨r4,p4,q4,l1⟩:=IN u r3.2.1 (by omega) x3;have g4:=Ki u r3.2.1 e p4;rw[A0,hB];unfold EK;rw[cT,q4,Aa]
   rcases l1 with⟨l1,_,_⟩|⟨l1,d0,a4,n4,l2,l3,l4,l5,l6,l7,l8⟩
   ·rw[l1]at g4⊢;exact⟨r3.2.1,r1.1,r2.1,r3.1,0,true,⟨_,_,_,g1,g2,g3,g4⟩,rfl,by simp⟩
   have ed:d0=a3:=by omega
   subst ed;rw[l1]at g4⊢;simp only[Ah,Ac,Ae]at g4⊢;rw[show((3:Int)==0)=false from rfl,Ac,show((3:Int)==1)=false from rfl,Ac,show((3:Int)==2)=false from rfl,Ac,show((3:Int)==3)=true from rfl,Ae,show ad 3 1=4 from ad1 (i:=3)<|by omega];simp only;rw[A0,hB];unfold EK;rw[cF];exact⟨r4.2.1,r1.1,r2.1,r3.1,r4.1,false,⟨_,_,_,g1,g2,g3,g4⟩,rfl,λ_=>⟨b0,c0,d0,a4,n1,n2,n3,n4,z2,y4,k4,l4,l3,z3,y5,k5,l5,l6,z5,y7,k7,l7,z6,y8,k8,l8⟩⟩
  obtain⟨a,m1,m2,m3,m4,bad,⟨c1,c2,c3,f1,f2,f3,f4⟩,f5,f6⟩:=four_ (λs:Int×Int×Int×Int×Int×Int=>EK (u,true) s.1 s.2.1 s.2.2.1 s.2.2.2.1 s.2.2.2.2.1 s.2.2.2.2.2) λ_ _ _ _ _ _=>rfl;rw[f5];simp only[f1,f2,f3,f4,Aa]
  cases bad with
  |true=>exact⟨fU,false,rfl,rfl,λ_=>rfl,by simp⟩
  |false=>
   obtain⟨a1,a2,a3,a4,n1,n2,n3,n4,rfl,rfl,rfl,rfl,rfl,i1,i2,i3,i4,i5,j1,j2,j3,j4,s1,s2,s3,s4⟩:=f6 rfl;simp only[Ac,Aa,Bw];have q:sx u 0=some (((L u)[0]'(by omega)).toNat:Int):=Fk u (i:=0) (by omega);have h:sub u (a4:Int) (FO u)=some (u.extract a4 (L u).length):=by rw[B8];exact FM u (by omega)<|by omega
   rw[q,h];simp only[Aa];have hk:=lT ((L u)[0]'(by omega));have hw:IntKind.i64.wrap (((L u)[0]'(by omega)).toNat:Int)=((L u)[0]'(by omega)).toNat:=Px (by omega) (by omega);rw[hw];obtain⟨po,po1,po2,_⟩:=T5 (Page.mk (((L u)[0]'(by omega)).toNat:Int) n1 n2 n3 n4<|u.extract a4 (L u).length);rw[po2];simp only[Aa]
   cases po with
   |false=>
    have:E8 (Page.mk (((L u)[0]'(by omega)).toNat:Int) n1 n2 n3 n4<|u.extract a4 (L u).length)=some (bs [],false):=by
     unfold E8;rw[po1];rfl
    rw[this];exact⟨fU,false,rfl,rfl,λ_=>rfl,by simp⟩
   |true=>
    have hT:L (u.extract a4 (L u).length)=(L u).drop a4:=by
     rw[IR];exact AM<|by simp
    have f:L u=[(L u)[0]'(by omega)]++Cs n1++Cs n2++Cs n3++Cs n4++L (u.extract a4 (L u).length):=by
     rw[hT,s1,s2,s3,s4];have h0:L u=[(L u)[0]'(by omega)]++(L u).drop 1:=by
      have:=AS (l:=L u) (i:=0) (by omega);simpa using this
     have d1:=Rd (L u) (a:=1) (b:=a1) (by omega);have d2:=Rd (L u) (a:=a1) (b:=a2) (by omega);have d3:=Rd (L u) (a:=a2) (b:=a3) (by omega);have d4:=Rd (L u) (a:=a3) (b:=a4) (by omega);simp only[Ax];rw[<-d4,<-d3,<-d2,<-d1];exact h0
    rw[Yd _ u ((L u)[0]'(by omega)) n1 n2 n3 n4 po1 rfl rfl rfl rfl rfl j1 j2 j3 j4 e f];obtain⟨v',hv',hs'⟩:=(T3 u).2 e;rw[hv]at hv'
    injection hv' with hv'
    subst hv';rw[hs',Aa];have:seq (u++four v) t=true:=by rw[Jq,A6];exact o.symm
    simp only[Ah,Ac,Aa,this];exact⟨_,true,rfl,rfl,by simp,λ_=>po1⟩
def Pw (x:Leaf):Nat:=x.Text.size
def Kw (x:Block):Nat:=zl Pw x.Leaves
def NK (x:Flash):Nat:=zl Kw x.Blocks
theorem ACi (f:Flash) (h:NK f<=1048576):JR f/\∀b∈f.Blocks,∀x∈b.Leaves,(L x.Text).length<=1048576:=by
 have h1:=RA (z:=Kw) (l:=f.Blocks);unfold NK at h;refine⟨⟨by omega,λb hb=>?_⟩,λb hb x hx=>?_⟩
 ·have h2:=hJ (z:=Kw) hb;have h3:=RA (z:=Pw) (l:=b.Leaves);have e:Kw b=zl Pw b.Leaves:=rfl;omega
 have h2:=hJ (z:=Kw) hb;have h3:=hJ (z:=Pw) hx;have e:Kw b=zl Pw b.Leaves:=rfl;have e2:Pw x=x.Text.size:=rfl;rw[Xr];omega
def nl (l:List Block):Nat:=(l.map λb=>b.Leaves.length).sum
theorem AEc (f:Flash):nl f.Blocks<=NK f:=by
 unfold nl NK zl;have:∀l:List Block,(l.map λb=>b.Leaves.length).sum<=(l.map Kw).sum:=by
  intro l
  induction l with
  |nil=>simp
  |cons b l ih=>
   have:=RA (z:=Pw) (l:=b.Leaves);have e:Kw b=zl Pw b.Leaves:=rfl;simp only[BJ,FI];omega
 have:=this f.Blocks;omega
def Sl (f:Flash) (y:Aq):Prop:=∃b x,gi f.Blocks y.Block=some b/\gi b.Leaves y.Leaf=some x/\(x.Is==1)=true/\F9 x.Text=some (y.Page,true)
theorem Ya {k:Nat} {b:Block} {x:Leaf} (f:Flash) (hf:JR f) (hb:f.Blocks[i]?=some b) (hx:b.Leaves[k]?=some x):Ql f i k=some (cond (x.Is==1) (x.Text,true) (bs [],false)):=by
 have h1:=(Ag.1 hb).1;have h2:=(Ag.1 hx).1;have h3:=hf.1;have h4:=hf.2 b<|Ar hb;unfold Ql;rw[Cm (by rw[Bz];omega) (by rw[Bz];omega),Rv,Bz,Ad (by omega:(0:Int)<=(i:Int)),Ad (by omega:(i:Int)<=(f.Blocks.length:Int)-1)];simp only[Aa,Ib,Ah,Ac,Aw,hb];rw[Cm (by rw[Bz];omega) (by rw[Bz];omega),Rv,Bz,Ad (by omega:(0:Int)<=(k:Int)),Ad (by omega:(k:Int)<=(b.Leaves.length:Int)-1)];simp only[Aa,Ib,Ah,Ac,hx]
 cases h:x.Is==1 with
 |true=>
  have:(x.Is !=1)=false:=by simp[bne,h]
  simp[this]
 |false=>
  have:(x.Is !=1)=true:=by simp[bne,h]
  simp[this]
theorem bG (f:Flash) (hf:JR f) (hT:∀b∈f.Blocks,∀x∈b.Leaves,(L x.Text).length<=1048576) (hn:nl f.Blocks<=1048576):
  ∃X,Ap (λs:List Aq×Int=>EE f s.1 s.2) ([],0)=some X/\Ap (λs:Int×List Aq=>Jg f s.1 s.2) (0,[])=some X/\X.length<=nl f.Blocks/\∀y∈X,Sl f y:=by
 refine Sj (body:=λs:List Aq×Int=>EE f s.1 s.2) (body':=λs:Int×List Aq=>Jg f s.1 s.2) (λs i=>(s,i)) (λs i=>(i,s)) f.Blocks.length (λi a=>a.length<=((f.Blocks.take i).map λb=>b.Leaves.length).sum/\∀y∈a,Sl f y) (λX=>X.length<=nl f.Blocks/\∀y∈X,Sl f y) ?_ ?_ (s:=[]) ⟨by simp,by simp⟩
 ·intro a i hi ⟨c,d⟩;have hb:f.Blocks[i]?=some f.Blocks[i]:=Ab hi;have hm:f.Blocks[i]∈f.Blocks:=A5 _;have j:=P3 (λb:Block=>b.Leaves.length) f.Blocks i hi;have l:=Mq (λb:Block=>b.Leaves.length) f.Blocks<|i+1;unfold nl at hn;have m:=hf.1;refine .inl ?_;simp only[EE,Jg,Ev hi,Aw,hb,Aa];obtain⟨u,q1,q2,q3⟩:=Sj (body:=λs:List Aq×Int=>Gt f (i:Int) s.1 s.2) (body':=λs:Int×List Aq=>KS (i:Int) f.Blocks[i] s.1 s.2) (λs i=>(s,i)) (λs i=>(i,s)) f.Blocks[i].Leaves.length (λk u=>u.length<=a.length+k/\∀y∈u,Sl f y) (λu=>u.length<=a.length+f.Blocks[i].Leaves.length/\∀y∈u,Sl f y)
   (λu k hk hu=>by
    have hx:f.Blocks[i].Leaves[k]?=some f.Blocks[i].Leaves[k]:=Ab hk;have g:f.Blocks[i].Leaves[k]∈f.Blocks[i].Leaves:=A5 _;have n:=hf.2 _ hm
    have h:∀y:Aq,ap 72 u [y]=some (u++ [y]):=λy=>BS (by simp only[A8];omega)
    refine .inl ?_;obtain⟨p,ok,r1,r2,r3,r4⟩:=IP f.Blocks[i].Leaves[k].Text (by have:=hT _ hm _ g;omega);simp only[Gt,KS,Ev hk,Aw,hb,hx,Aa,Ya f hf hb hx,r2,h];have o:=hu.1
    cases e:f.Blocks[i].Leaves[k].Is==1 with
    |false=>
     obtain⟨p',ok',t1,_⟩:=IP (bs []) (by rw[EU];simp);simp only[Ac,Aa,t1];refine⟨u,by rw[ad1],by cases ok<;>(simp only[Ae,Ac,Aa];rw[ad1]),by omega,hu.2⟩
    |true=>
     simp only[Ae,Aa,r1]
     cases ok with
     |false=>exact⟨u,by simp only[Ac];rw[ad1],by simp only[Ac,Aa];rw[ad1],by omega,hu.2⟩
     |true=>
      refine⟨u++ [Aq.mk i k p],by simp only[Ae];rw[ad1],by simp only[Ae,Aa];rw[ad1],by simp only[Ai,A8];omega,λy hy=>?_⟩
      rcases Ak.1 hy with hy|hy
      ·exact hu.2 y hy
      rw[AE]at hy;subst hy
      exact⟨_,_,by simp only[Aw];exact hb,by simp only[Aw];exact hx,e,r1⟩)
   (λu hu=>⟨u,by simp only[Gt,Aw,hb,Aa,DT],by simp only[KS,DT],hu⟩) (s:=a) ⟨by omega,d⟩
  rw[q1,q2,Aa,ad1];exact⟨u,rfl,rfl,by omega,q3.2⟩
 intro a ⟨c,d⟩;refine⟨a,by simp only[EE,DT],by simp only[Jg,DT],?_,d⟩;rw[AW]at c;exact c
theorem kO {l:List γ} {i j:Int} {x y:γ} (h:gi l j=some y):∃z,gi (si l i x) j=some z:=by
 obtain⟨h1,h2⟩:=Da h;have:=(Ag.1 h2).1;unfold gi;rw[Az h1];exact⟨_,Ab (by simp only[si,G4];exact this)⟩
theorem pX (l:List Aq) (k:Int):K6 l k=(Bn (Nw BB) 0 k l).map (Sum.map (λs=>(s.2,s.1)) id):=by
 unfold K6 Bn xY pW
 cases hk:decide (k>0)with
 |false=>rfl
 |true=>
  simp only[Ae]
  cases h1:gi l (sb k 1)with
  |none=>cases h2:gi l k<;>simp
  |some x=>
   cases h2:gi l k with
   |none=>simp
   |some y=>
    simp only[Aa];have e:(decide<|x.Page.Seq>y.Page.Seq)=Nw BB y x:=rfl;rw[e]
    cases Nw BB y x with
    |false=>rfl
    |true=>
     simp only[Ae,h1,h2,Aa];obtain⟨z,hz⟩:=kO (i:=k) (x:=x) h1;rw[hz];rfl
theorem ABu {l l':List γ} {i j:Int} (h:pW l i j=some l'):l'.length=l.length:=by
 unfold pW at h;obtain⟨x,_,h⟩:=An.1 h;obtain⟨y,_,h⟩:=An.1 h
 injection h with h
 subst h;simp[si]
theorem AB8 {a j:Int} {l r:List Aq} (h:Ap (λs:Int×List Aq=>Bn (Nw BB) a s.1 s.2) (j,l)=some r):r.length=l.length:=by
 refine wB (λs:Int×List Aq=>s.2.length=l.length) (λr=>r.length=l.length) ?_ ?_ (s:=(j,l)) rfl h
 ·rintro⟨j,m⟩ s' hm hb;simp only[Bn]at hb;obtain⟨c,_,hb⟩:=An.1 hb
  cases c with
  |false=>cases hb
  |true=>
   simp only[Ae]at hb;obtain⟨m',h1,hb⟩:=An.1 hb
   injection hb with hb
   injection hb with hb
   subst hb;exact(ABu h1).trans hm
 rintro⟨j,m⟩ b hm hb;simp only[Bn]at hb;obtain⟨c,_,hb⟩:=An.1 hb
 cases c with
 |false=>
  simp only[Ac]at hb
  injection hb with hb
  injection hb with hb
  subst hb;exact hm
 |true=>
  simp only[Ae]at hb;obtain⟨m',h1,hb⟩:=An.1 hb;cases hb
theorem bV (f:Flash) (hf:JR f) (hT:∀b∈f.Blocks,∀x∈b.Leaves,(L x.Text).length<=1048576) (hn:nl f.Blocks<=1048576):
  ∃r,Gb f=some r/\F7 f=some r/\r.length<=nl f.Blocks/\(∀y∈r,Sl f y)/\srt BB r:=by
 obtain⟨X,h1,h2,h3,h4⟩:=bG f hf hT hn;obtain⟨r,h5,h6,h7⟩:=eZ BB X (by omega);obtain⟨r',h8,h9,h10⟩:=Jc BB [] X [] (by simp only[BU];omega);have hr:r'=r:=NP BB h9 h6 (λk=>by rw[h7 k,<-h10 k]);subst hr;refine⟨r',?_,?_,?_,?_,h6⟩
 ·unfold Gb;rw[h1,Aa];simp only[A4,A3,BU,HS]at h8;unfold BG at h8;rw[show ad ((0:Nat):Int) 1=1 from rfl]at h8;have hc:Ap (λs:List Aq×Int=>K7 s.1 s.2) (X,1)=Ap (λs:Int×List Aq=>Bt (Nw BB) ((0:Nat):Int) (X.length:Int) s.1 s.2) (1,X):=by
   refine nQ (body:=λs:Int×List Aq=>Bt (Nw BB) ((0:Nat):Int) (X.length:Int) s.1 s.2) (body':=λs:List Aq×Int=>K7 s.1 s.2) (λs=>(s.2,s.1)) (λs=>s.2.length=X.length) ?_ ?_ (1,X) rfl
   ·rintro⟨j,m⟩ hm;simp only at hm;simp only[K7,Bt,Bz,hm]
    cases decide (j<(X.length:Int))with
    |false=>rfl
    |true=>
     simp only[Ae];rw[rD (body:=λs:Int×List Aq=>Bn (Nw BB) ((0:Nat):Int) s.1 s.2) (body':=λs:List Aq×Int=>K6 s.1 s.2) (λs=>(s.2,s.1)) (λs=>pX s.2 s.1) (j,m)];cases Ap (λs:Int×List Aq=>Bn (Nw BB) ((0:Nat):Int) s.1 s.2) (j,m)<;>rfl
   rintro⟨j,m⟩ s' hm hb;simp only[Bt]at hb
   cases hc:decide (j<(X.length:Int))with
   |false=>rw[hc,Ac]at hb;cases hb
   |true=>
    rw[hc,Ae]at hb;obtain⟨m',h1,hb⟩:=An.1 hb
    injection hb with hb
    injection hb with hb
    subst hb;exact(AB8 h1).trans hm
  rw[hc];exact h8
 ·unfold F7;rw[h2,Aa,h5];rfl
 ·rw[<-h7.len];exact h3
 exact λy hy=>h4 y<|(h7.mem).1 hy
theorem Og {S:Type} {body:S->Option (S⊕List α)} (a:List α->Int->S) (g:Nat->α->α) (l0:List α) (h1:∀(i:Nat) (l:List α) x,l.length=l0.length->l[i]?=some x->l0[i]?=some x->body (a l (i:Nat))=some (.inl (a (l.set i (g i x)) ((i+1:Nat):Int)))) (h2:∀l:List α,l.length=l0.length->body (a l (l0.length:Nat))=some (.inr l)):Ap body (a l0 0)=some (l0.mapIdx g):=by
 obtain⟨b,h3,h4⟩:=AP (body:=body) a l0.length (λi l=>l.length=l0.length/\∀j,l[j]?=if j<i then(l0[j]?).map (g j)else l0[j]?) (λb=>b=l0.mapIdx g)
  (λl i hi hs=>by
   obtain⟨hl,hs⟩:=hs;have c:l0[i]?=some l0[i]:=Ab hi;have hx:l[i]?=some l0[i]:=by rw[hs,Av<|FH _,c]
   refine .inl ⟨_,h1 i l _ hl hx c,by rw[G4,hl],λj=>?_⟩;rw[Cu];by_cases e:i=j
   ·subst e;rw[Az rfl,Az (by omega),Az (by omega),c];rfl
   rw[Av e,hs];by_cases h:j<i
   ·rw[Az h,Az<|by omega]
   rw[Av h,Av<|by omega])
  (λl hs=>⟨l,h2 l hs.1,by
   apply CE;intro j;rw[hs.2,Lk];by_cases h:j<l0.length
   ·rw[Az h]
   rw[Av h,Hq<|by omega]
   rfl⟩) (s:=l0) ⟨rfl,λj=>by rw[Av<|by omega]⟩
 rw[h3,h4]
abbrev Ks:=List B5
def dk:B5:=B5.mk true []
def B9 (K:Ks) (i:Int):B5:=(gi K i).getD dk
def LH (k:B5) (j:Nat):Int:=(k.Kids[j]?).getD 0
def PJ (K:Ks) (i:Nat) (leaf:Bool) (n:Int):Bool:=bif leaf then decide (0<=n)else(n== -1||(decide (0<=n/\n<=(i:Int)-1)&&(B9 K n).Leaf))
def CT (K:Ks):Bool:=K.zipIdx.all λz=>z.1.Kids.length==4&&z.1.Kids.all (PJ K z.2 z.1.Leaf)
def DD (K:Ks) (r:Int):Bool:=r== -1||(decide (0<=r/\r<(K.length:Int))&&!(B9 K r).Leaf)
def Ry (K:Ks) (root:Int) (s:Nat):Int:=if root<0 then 0 else if LH (B9 K root) (s/4)<0 then 0 else LH (B9 K<|LH (B9 K root)<|s/4)<|s %4
def EZ (K:Ks) (root:Int):List Int:=(List.range 16).map<|Ry K root
variable {K X:Ks}
theorem Oh (h:i<K.length):B9 K (i:Int)=K[i]:=by
 unfold B9;rw[Aw,Ab h];rfl
theorem HZ {i:Int} (h0:0<=i) (h:i<(K.length:Int)):gi K i=some (B9 K i):=by
 unfold B9;rw[KX h0 h];rfl
theorem EP (x a b:Int):BR x a b=some (decide (a<=x/\x<=b)):=by
 rw[Rv];congr 1;rw[DR];simp
theorem GE:CT K=true↔∀i:Nat,i<K.length->(B9 K (i:Int)).Kids.length=4/\∀n∈(B9 K (i:Int)).Kids,PJ K i (B9 K (i:Int)).Leaf n=true:=by
 unfold CT;rw[Jm];constructor
 ·intro h i hi;have:=h (K[i],i) (by rw[List.mem_zipIdx_iff_getElem?];exact Ab hi);rw[Aj,Jm]at this;rw[Oh hi];exact⟨by simpa using this.1,this.2⟩
 intro h z hz;rw[List.mem_zipIdx_iff_getElem?]at hz;obtain⟨a,hz⟩:=Ag.1 hz;have:=h z.2 a;rw[Oh a,hz]at this;rw[Aj,Jm];exact⟨by simpa using this.1,this.2⟩
theorem KA (a:Arena) (ha:a.Knots.length<=1048576):GW a=some (CT a.Knots):=by
 unfold GW;have h:=ZX (body:=λs:Int=>Ep a s) a.Knots (λi k=>k.Kids.length==4&&k.Kids.all (PJ a.Knots i k.Leaf)) (.inr false) (.inl ()) (by omega)
  (λi k hk=>by
   have hi:=(Ag.1 hk).1;simp only[Ep,Ev hi,Aw,hk,Aa];by_cases h4:k.Kids.length=4
   ·have e1:(ln k.Kids !=4)=false:=by simp[ln,h4]
    have e2:(k.Kids.length==4)=true:=by simp[h4]
    simp only[e1,Ac,e2,CZ];have q:=ZX (body:=λs:Int=>EI a (i:Int) k s) k.Kids (λ_ n=>PJ a.Knots i k.Leaf n) (.inr<|.inr<|.inr false) (.inl ()) (by omega)
     (λj n hn=>by
      have hj:=(Ag.1 hn).1;simp only[EI];rw[cT,Aw,hn];simp only[Aa,PJ]
      cases hl:k.Leaf with
      |true=>
       simp only[Ae,Ah,Ac];by_cases h0:n<0
       ·rw[Ad h0,Af (by omega:¬0<=n)];rfl
       rw[Af h0,Ad (by omega:0<=n)];simp only[Ac,Aa,Ae];rw[ad1]
      |false=>
       simp only[Ac,AD,Ae];by_cases h1:n= -1
       ·subst h1;simp only[Kt,Ac,Aa,BEq.rfl,Bool.true_or,Ae];rw[ad1]
       have e3:(n != -1)=true:=by simp[h1]
       have e4:(n== -1)=false:=by simp[h1]
       rw[e3,e4];simp only[Ae,Wx];rw[Cm,EP];simp only[Aa];by_cases h2:0<=n/\n<=(i:Int)-1
       ·rw[Ad h2];simp only[Ah,Ac];rw[HZ h2.1<|by omega];simp only[Aa,CZ]
        cases(B9 a.Knots n).Leaf with
        |true=>simp only[Ah,Ac,Ae];rw[ad1]
        |false=>rfl
       rw[Af h2];rfl)
     (by simp only[EI];rw[cF])
    rw[q];have hz:(k.Kids.zipIdx.all λz=>PJ a.Knots i k.Leaf z.1)=k.Kids.all (PJ a.Knots i k.Leaf):=by
     rw[show(λz:Int×Nat=>PJ a.Knots i k.Leaf z.1)=(PJ a.Knots i k.Leaf)∘Prod.fst from rfl,<-List.all_map];congr 1;simp
    rw[Aa,hz]
    cases k.Kids.all (PJ a.Knots i k.Leaf)with
    |true=>simp only[Ae,Bw];rw[ad1]
    |false=>rfl
   have e1:(ln k.Kids !=4)=true:=by simp[ln];omega
   have e2:(k.Kids.length==4)=false:=by simp[h4]
   simp only[e1,Ae,e2,Bool.false_and,Ac])
  (by simp only[Ep,DT])
 rw[h];unfold CT;simp only[Aa];cases(a.Knots.zipIdx.all λz=>z.1.Kids.length==4&&z.1.Kids.all (PJ a.Knots z.2 z.1.Leaf))<;>rfl
theorem Nn (a:Arena) (ha:a.Knots.length<=1048576) (r:Int):HE a r=some (DD a.Knots r):=by
 unfold HE DD
 cases hr:(r== -1)with
 |true=>rfl
 |false=>
  simp only[Ac,Wx];rw[Bz,Cm,EP];simp only[Aa];by_cases h:0<=r/\r<(a.Knots.length:Int)
  ·rw[Ad h,Ad (by omega:0<=r/\r<=(a.Knots.length:Int)-1)];simp only[Ae,CZ];rw[HZ h.1 h.2];rfl
  rw[Af h,Af (by omega:¬(0<=r/\r<=(a.Knots.length:Int)-1))];rfl
theorem Ca (h:DD K r=true):r= -1\/(0<=r/\r<(K.length:Int)/\(B9 K r).Leaf=false):=by
 unfold DD at h;simp only[Co,Ce,Aj,A6,CF]at h
 rcases h with h|h
 ·exact .inl h
 exact .inr ⟨h.1.1,h.1.2,h.2⟩
theorem FD (hK:CT K=true) (h0:0<=r) (h1:r<(K.length:Int)):(B9 K r).Kids.length=4/\∀j,j<4->(B9 K r).Kids[j]?=some (LH (B9 K r) j)/\PJ K r.toNat (B9 K r).Leaf (LH (B9 K r) j)=true:=by
 have:=GE.1 hK r.toNat (by omega);rw[show((r.toNat:Nat):Int)=r by omega]at this;refine⟨this.1,λj hj=>?_⟩;have a:j<(B9 K r).Kids.length:=by omega
 have e:(B9 K r).Kids[j]?=some (LH (B9 K r) j):=by unfold LH;rw[Ab a];rfl
 exact⟨e,this.2 _<|Ar e⟩
theorem Gv (hK:CT K=true) (h0:0<=r) (h1:r<(K.length:Int)) (hl:(B9 K r).Leaf=false) (hj:j<4):LH (B9 K r) j= -1\/(0<=LH (B9 K r) j/\LH (B9 K r) j<r/\(B9 K (LH (B9 K r) j)).Leaf=true):=by
 have:=((FD hK h0 h1).2 j hj).2;rw[hl]at this;simp only[PJ,Ac,Co,Ce,Aj,A6]at this
 rcases this with h|⟨⟨h2,h3⟩,h4⟩
 ·exact .inl h
 exact .inr ⟨h2,by omega,h4⟩
theorem AAq (hK:CT K=true) (h0:0<=r) (h1:r<(K.length:Int)) (hl:(B9 K r).Leaf=true) (hj:j<4):0<=LH (B9 K r) j:=by
 have:=((FD hK h0 h1).2 j hj).2;rw[hl]at this;simpa[PJ]using this
theorem qu4 (h:s<16):qu (s:Int) 4=((s/4:Nat):Int):=by
 unfold qu;rw[show Int.tdiv (s:Int) 4=((s/4:Nat):Int) by rw[Int.tdiv_eq_ediv_of_nonneg<|by omega];omega];exact Px (by omega)<|by omega
theorem yI:Int.tmod (s:Int) 4=((s %4:Nat):Int):=by
 rw[Ll<|by omega];omega
theorem X3 (a:Arena) (hK:CT a.Knots=true) (hr:DD a.Knots r=true) (hs:s<16):NW a r (s:Int)=some (Ry a.Knots r s):=by
 unfold NW Ry
 rcases Ca hr with rfl|⟨h0,h1,hl⟩
 ·rfl
 rw[Af (by omega:¬r<0),Av (by omega),Ac,HZ h0 h1];rw[Aa,qu4 hs,Aw,((FD hK h0 h1).2 (s/4)<|by omega).1];simp only[Aa]
 rcases Gv hK h0 h1 hl (show s/4<4 by omega)with e|⟨e1,e2,e3⟩
 ·rw[e];rfl
 rw[Af (by omega),Av (by omega),Ac,HZ e1<|by omega];rw[Aa,yI,Aw,((FD hK e1<|by omega).2 (s %4)<|by omega).1];rfl
theorem Z5 (a:Arena) (ha:a.Knots.length<=1048576) (hK:CT a.Knots=true) (hr:DD a.Knots r=true) (hs:s<16):Qo a r (s:Int)=some (Ry a.Knots r s):=by
 unfold Qo;rw[KA a ha,Nn a ha,EP,hK,hr];simp only[Aa,Ah,Ac];rw[Ad (by omega:0<=(s:Int)/\(s:Int)<=15)];simp only[Ah,Ac];rw[X3 a hK hr hs]
 try rfl
theorem NZ (a:Arena) (ha:a.Knots.length<=1048576) (hK:CT a.Knots=true) (hr:DD a.Knots r=true):JJ a r=some (EZ a.Knots r):=by
 unfold JJ;obtain⟨b,h1,h2⟩:=AP (body:=λs:List Int×Int=>JN a r s.1 s.2) (λ(o:List Int) i=>(o,i)) 16 (λi o=>o=(List.range i).map (Ry a.Knots r)) (λb=>b=EZ a.Knots r)
  (λo i hi ho=>by
   refine .inl ⟨_,?_,rfl⟩;simp only[JN]
   rw[cT,Z5 a ha hK hr hi,Aa,BS (by rw[ho];simp;omega),Aa,ad1,ho,Ey,Cn,List.map_singleton])
  (λo ho=>⟨_,by simp only[JN];rw[cF],ho⟩) (s:=[]) rfl
 rw[h1,h2];rfl
theorem LV {by_:Nat} (h:l.length*by_<=140737488355328):ap by_ [] l=some l:=by
 rw[BS (by simpa using h),A4]
def AAQ (K:Ks):Prop:=K.length<=1048576/\∀k∈K,k.Kids.length<=1048576
theorem Lb (hK:CT K=true) (h:K.length<=1048576):AAQ K:=by
 refine⟨h,λk hk=>?_⟩;obtain⟨i,hi,rfl⟩:=AC hk;have:=(GE.1 hK i hi).1;rw[Oh hi]at this;omega
theorem V0 (a:Arena) (h:AAQ a.Knots):N9 a=some a:=by
 unfold N9;have h1:=VO (body:=λs:Int×List B5=>Kz a s.1 s.2) a.Knots (λk=>k)
  (λi k b hk ho=>by
   have hi:=(Ag.1 hk).1;have hm:=h.2 k<|Ar hk;have:=h.1;simp only[Kz,Ev hi,Aw,hk,Aa]
   rw[LV (by omega),Aa,BS (by simp;omega),Aa,ad1])
  (λb=>by simp only[Kz,DT])
 rw[h1];simp only[Aa,List.map_id']
theorem Gq (s:Store) (h:AAQ s.Arena.Knots) (hv:s.Vols.length<=1048576):Es s=some s:=by
 unfold Es;rw[LV (by omega),V0 _ h];rfl
def OM (K:Ks) (r:Int) (s:Nat) (n:Int):List Int:=(if r<0 then [0,0,0,0]else if LH (B9 K r) (s/4)<0 then [0,0,0,0]else(B9 K<|LH (B9 K r)<|s/4).Kids).set (s %4) n
def T8 (K:Ks) (r:Int) (s:Nat):List Int:=(if r<0 then [-1,-1,-1,-1]else(B9 K r).Kids).set (s/4) (K.length:Int)
def J0 (K:Ks) (r:Int) (s:Nat) (n:Int):Ks:=K++ [B5.mk true<|OM K r s n,B5.mk false<|T8 K r s]
theorem mk4:mk 8 (0:Int) 4=some [0,0,0,0]:=by rw[show(4:Int)=((4:Nat):Int)from rfl,WK (by omega)<|by omega];rfl
theorem oG {k:B5} (h:j<k.Kids.length):gi k.Kids (j:Int)=some (LH k j):=by
 unfold LH;rw[Aw,Ab h];rfl
theorem Z0 (a:Arena) (ha:a.Knots.length<=1048000) (hK:CT a.Knots=true) (hr:DD a.Knots r=true) (hs:s<16) (hn:0<=n):
  Y6 a r (s:Int) n=some (Arena.mk (J0 a.Knots r s n),(a.Knots.length:Int)+1):=by
 unfold Y6;rw[V0 _ (Lb hK<|by omega),KA a (by omega),Nn a (by omega),EP,hK,hr];simp only[Aa,Ah,Ac];rw[Ad (by omega:0<=(s:Int)/\(s:Int)<=15),Af (by omega:¬n<0)];simp only[Ah,Ac,Aa];rw[mk4];simp only[Aa];have fin:∀(lf tp:List Int),lf.length=4->tp.length=4->J0 a.Knots r s n=a.Knots++ [B5.mk true<|lf.set (s %4) n,B5.mk false<|tp.set (s/4) (a.Knots.length:Int)]->
   ((gi lf<|Int.tmod (s:Int) 4).bind λx4=>(gi tp<|qu (s:Int) 4).bind λx5=>(ap 32 a.Knots [B5.mk true<|si lf (Int.tmod (s:Int) 4) n,B5.mk false<|si tp (qu (s:Int) 4)<|ln a.Knots]).bind λq4=>some (Arena.mk q4,sb (ln q4) 1))=some (Arena.mk<|J0 a.Knots r s n,(a.Knots.length:Int)+1):=by
  intro lf tp h1 h2 h3;rw[qu4 hs,yI,Aw,Aw,Ab (by omega),Ab<|by omega];simp only[Aa];rw[BS (by simp;omega),EX,EX,Bz,<-h3];simp only[Aa];rw[Bz,h3,Ai,Cm (by simp;omega) (by simp;omega)];simp only[A7,BU];congr 2;omega
 rcases Ca hr with rfl|⟨h0,h1,hl⟩
 ·rw[Af (by omega:¬(-1:Int)>=0)];simp only[Ac,Aa];exact fin _ _ rfl rfl rfl
 rw[cT,HZ h0 h1];have h4:=(FD hK h0 h1).1;simp only[Aa];rw[LV<|by omega];simp only[Aa];rw[qu4 hs,oG (by omega:s/4<(B9 a.Knots r).Kids.length)];simp only[Aa];rw[<-qu4 hs]
 rcases Gv hK h0 h1 hl (show s/4<4 by omega)with e|⟨e1,e2,e3⟩
 ·rw[Af (by omega:¬LH (B9 a.Knots r) (s/4)>=0)];simp only[Ac,Aa];exact fin _ _ rfl h4 (by unfold J0 OM T8;simp only[Av (show¬r<0 by omega),Az<|show LH (B9 a.Knots r) (s/4)<0 by omega])
 rw[cT,HZ e1<|by omega];have h5:=(FD hK e1<|by omega).1;simp only[Aa];rw[LV<|by omega];simp only[Aa];exact fin _ _ h5 h4 (by unfold J0 OM T8;simp only[Av (show¬r<0 by omega),Av<|show¬LH (B9 a.Knots r) (s/4)<0 by omega])
def Oq (K:Ks) (r:Int) (i:Nat):Bool:=decide (0<=r)&&(decide (r=(i:Int))||(B9 K r).Kids.any λn=>decide<|n=(i:Int))
theorem jS (n:Nat) (f:Nat->α) (g:Nat->α->α):((List.range n).map f).mapIdx g=(List.range n).map λi=>g i (f i):=by
 apply CE;intro j;rw[Lk,AO,AO];by_cases h:j<n
 ·rw[R8 h];rfl
 rw[Hq<|by simpa using h];rfl
theorem PC (n:Nat) (f:Nat->α) (i:Nat) (x:α) (g:Nat->α) (h:∀j,j<n->g j=if j=i then x else f j):((List.range n).map f).set i x=(List.range n).map g:=by
 apply CE;intro j;rw[Cu,AO,AO];by_cases hj:j<n
 ·rw[R8 hj];simp only[Bx,h j hj,Ba,CS];by_cases e:i=j
  ·rw[Az e,Az (by omega),Az e.symm]
  rw[Av e,Av<|Fj e]
 rw[Hq<|by simpa using hj];simp only[Option.map_none,Ba,CS];split
 ·rw[Av<|by omega]
 rfl
theorem HI {n:Nat} {f:Nat->α} (h:i<n):((List.range n).map f)[i]?=some (f i):=by
 rw[AO,R8 h];rfl
theorem Vm {l:List Int} {m:Nat} (h:l[m]?=some x) (p:Int->Bool):(l.take (m+1)).any p=((l.take m).any p||p x):=by
 rw[Eg,h,List.any_append];simp
theorem mM (a:Arena) (ha:a.Knots.length<=1048576) (hK:CT a.Knots=true) (hr:DD a.Knots r=true):Vz a r=some ((List.range a.Knots.length).map (Oq a.Knots r)):=by
 unfold Vz;rw[Bz,WK (by omega)<|by omega];simp only[Aa]
 rcases Ca hr with rfl|⟨h0,h1,hl⟩
 ·simp only[show decide ((-1:Int)<0)=true from rfl,Ae];congr 1;rw[show(Oq a.Knots<|-1)=λ_=>false from rfl,Nh,CS]
 rw[cF];obtain⟨m,rfl⟩:∃m:Nat,r=(m:Int):=⟨r.toNat,by omega⟩;rw[Aw,List.getElem?_replicate,Az<|by omega];simp only[Aa];rw[EX];obtain⟨h4,hk⟩:=FD hK h0 h1;obtain⟨b,q1,q2⟩:=AP (body:=λs:List Bool×Int=>Mw a (m:Int) s.1 s.2) (λ(o:List Bool) i=>(o,i)) 4
  (λi o=>o=(List.range a.Knots.length).map λ(j:Nat)=>decide ((m:Int)=(j:Int))||((B9 a.Knots (m:Int)).Kids.take i).any λn=>decide<|n=(j:Int))
  (λb=>b=(List.range a.Knots.length).map (Oq a.Knots (m:Int)))
  (λo i hi ho=>by
   obtain⟨e,_⟩:=hk i hi;simp only[Mw];rw[cT,HZ h0 h1];simp only[Aa];rw[Aw,e];simp only[Aa]
   rcases Gv hK h0 h1 hl hi with e1|⟨e1,e2,e3⟩
   ·rw[e1,cF,ad1];refine .inl ⟨o,rfl,?_⟩;rw[ho];apply Di;intro j hj;rw[Vm e,e1,Af (by omega:¬(-1:Int)=(j:Int)),lO]
   obtain⟨c,hc⟩:∃c:Nat,LH (B9 a.Knots (m:Int)) i=(c:Int):=⟨(LH (B9 a.Knots (m:Int)) i).toNat,by omega⟩;rw[hc,cT]
   try simp only[Aa]
   rw[ho,Aw,HI<|by omega];simp only[Aa];rw[EX,ad1];refine .inl ⟨_,rfl,?_⟩;apply PC;intro j hj;rw[Vm e,hc];by_cases d:j=c
   ·subst d;simp
   rw[Av d,Af (by omega:¬(c:Int)=(j:Int)),lO])
  (λo ho=>⟨_,by simp only[Mw];rw[cF],by
   rw[ho];apply Di;intro j hj;rw[AM<|by omega];unfold Oq
   rw[Ad h0,CZ]⟩) (s:=(List.replicate a.Knots.length false).set m true) (by
   rw[<-CS (n:=a.Knots.length),<-Nh,CS];apply PC;intro j hj;simp only[Jj,List.any_nil,lO];by_cases e:j=m
   ·subst e;simp
   rw[Av e,Af<|by omega])
 rw[q1,q2];rfl
def C9 (K:Ks) (R:List Int) (i:Nat):Bool:=R.any λr=>Oq K r i
def dH (K:Ks) (R:List Int) (i:Nat):Nat:=((List.range i).filter<|C9 K R).length
def Oy (K:Ks) (R:List Int) (n:Int):Int:=if 0<=n then(dH K R n.toNat:Int)else n
def Y2 (K:Ks) (R:List Int) (i:Nat):B5:=B5.mk (B9 K (i:Int)).Leaf<|bif(B9 K (i:Int)).Leaf then(B9 K (i:Int)).Kids else(B9 K (i:Int)).Kids.map<|Oy K R
def TM (K:Ks) (R:List Int):Ks:=((List.range K.length).filter<|C9 K R).map<|Y2 K R
theorem IY (l:List α) (f:α->α):l.mapIdx (λ_ x=>f x)=l.map f:=by
 apply CE;intro j;rw[Lk,AO]
theorem Pz (hr:r∈R) (h0:0<=r):C9 K R r.toNat=true:=by
 unfold C9;rw[CD];exact⟨r,hr,by unfold Oq;rw[Ad h0,Ad (by omega:r=(r.toNat:Int))];rfl⟩
theorem Za (hK:CT K=true) (hR:∀r∈R,DD K r=true) (hu:C9 K R i=true) (hl:(B9 K (i:Int)).Leaf=false):(i:Int)∈R:=by
 unfold C9 at hu;rw[CD]at hu;obtain⟨r,hr,h⟩:=hu;unfold Oq at h;simp only[Aj,Co,A6,CD]at h;obtain⟨h0,h⟩:=h
 rcases h with h|⟨n,hn,h⟩
 ·rw[<-h];exact hr
 rcases Ca (hR r hr)with e|⟨_,h1,a⟩
 ·omega
 obtain⟨h4,hk⟩:=FD hK h0 h1;obtain⟨j,hj,b⟩:=AC hn;have e:=(hk j<|by omega).1;rw[Ab hj,b]at e
 injection e with e
 rcases Gv hK h0 h1 a (show j<4 by omega)with k1|⟨_,_,k3⟩
 ·omega
 rw[<-e,h,hl]at k3;cases k3
theorem Vg (hr:r∈R) (h0:0<=r) (hn:n∈(B9 K r).Kids) (h1:0<=n):C9 K R n.toNat=true:=by
 unfold C9;rw[CD];refine⟨r,hr,?_⟩;unfold Oq;rw[Ad h0,CZ,Co,CD];exact .inr ⟨n,hn,by rw[A6];omega⟩
theorem ACJ (i:Nat):dH K R i<=i:=by
 have:=CK (C9 K R)<|List.range i;rw[CS]at this;exact this
theorem cW (a:Arena) (ha:a.Knots.length<=1048576) (R:List Int) (hc:R.length<=1048576) (hR:∀r∈R,DD a.Knots r=true):Ap (λs:Bool×Int=>Ga a R s.1 s.2) (true,0)=some true:=by
 obtain⟨b,h1,h2⟩:=AP (body:=λs:Bool×Int=>Ga a R s.1 s.2) (λ(o:Bool) i=>(o,i)) R.length (λ_ o=>o=true) (λb=>b=true)
  (λo i hi ho=>by
   have hx:=Ab hi;simp only[Ga,KH,Ad hi,Ae,Aa,ho,Aw,hx];rw[Nn a ha,hR _<|A5 hi,Aa,ad1]
   exact .inl ⟨true,rfl,rfl⟩)
  (λo ho=>⟨o,by simp only[Ga,KH,FH,LQ,Ac,Aa],ho⟩) (s:=true) rfl
 rw[h2]at h1;exact h1
theorem iS (a:Arena) (ha:a.Knots.length<=1048576) (hK:CT a.Knots=true) (R:List Int) (hc:R.length<=1048576) (hR:∀r∈R,DD a.Knots r=true):
  Ap (λs:List Bool×Int=>FZ a R s.1 s.2) (List.replicate a.Knots.length false,0)=some ((List.range a.Knots.length).map (C9 a.Knots R)):=by
 obtain⟨b,h1,h2⟩:=AP (body:=λs:List Bool×Int=>FZ a R s.1 s.2) (λ(o:List Bool) i=>(o,i)) R.length (λi o=>o=(List.range a.Knots.length).map λ(j:Nat)=>(R.take i).any λr=>Oq a.Knots r j) (λb=>b=(List.range a.Knots.length).map (C9 a.Knots R))
  (λo i hi ho=>by
   have hx:=Ab hi;simp only[FZ,Ev hi,Aa,Aw,hx];rw[mM a ha hK<|hR _<|A5 hi];simp only[Aa];have d:o.length=a.Knots.length:=by rw[ho];simp
   have q:=Og (body:=λs:List Bool×Int=>H6 ((List.range a.Knots.length).map<|Oq a.Knots R[i]) s.1 s.2) (λl i=>(l,i)) (λk x=>x||Oq a.Knots R[i] k) o
    (λk l x hl c e=>by
     have hk:k<a.Knots.length:=by have:=(Ag.1 c).1;omega
     simp only[H6,KH];rw[Ad (by simpa using hk),Ae,Aw,c];simp only[Aa]
     cases x with
     |true=>simp only[Ae,Bool.true_or];rw[EX,ad1]
     |false=>
      simp only[Ac,Wx]
      rw[Aw,HI hk,Aa,EX,ad1])
    (λl hl=>by simp only[H6,KH];rw[d,Af (by simp),Ac])
   rw[q,Aa,ad1,ho,jS];refine .inl ⟨_,rfl,?_⟩;apply Di;intro j hj;rw[Eg,hx,List.any_append]
   simp)
  (λo ho=>⟨o,by simp only[FZ,DT],by rw[ho,AM<|by omega];rfl⟩) (s:=List.replicate a.Knots.length false) (by
   simp only[Jj,List.any_nil]
   rw[Nh,CS])
 rw[<-h2];exact h1
def TA (K:Ks) (R:List Int) (i:Nat):List Int:=(List.range K.length).map λ(j:Nat)=>if j<i/\C9 K R j=true then(dH K R j:Int)else 0
theorem cX (a:Arena) (ha:a.Knots.length<=1048576) (hK:CT a.Knots=true) (R:List Int) (hR:∀r∈R,DD a.Knots r=true):
  Ap (λs:List Int×Int×List B5=>FY a ((List.range a.Knots.length).map (C9 a.Knots R)) s.1 s.2.1 s.2.2) (List.replicate a.Knots.length 0,0,[])=some (TA a.Knots R a.Knots.length,TM a.Knots R):=by
 obtain⟨b,h1,h2⟩:=AP (body:=λs:List Int×Int×List B5=>FY a ((List.range a.Knots.length).map<|C9 a.Knots R) s.1 s.2.1 s.2.2) (λ(o:List Int×List B5) i=>(o.1,i,o.2)) a.Knots.length
  (λi o=>o=(TA a.Knots R i,((List.range i).filter<|C9 a.Knots R).map<|Y2 a.Knots R)) (λb=>b=(TA a.Knots R a.Knots.length,TM a.Knots R))
  (λo i hi ho=>by
   subst ho;simp only[FY,Ev hi];rw[Aw,HI hi];simp only[Aa]
   cases hu:C9 a.Knots R i with
   |false=>
    simp only[AD,Ae];rw[ad1];refine .inl ⟨(TA a.Knots R i,((List.range i).filter<|C9 a.Knots R).map<|Y2 a.Knots R),rfl,?_⟩;congr 1
    ·unfold TA;apply Di;intro j hj;by_cases e:j=i
     ·subst e;rw[Av (by omega),Av (by rw[hu];simp)]
     by_cases h:j<i/\C9 a.Knots R j=true
     ·rw[Az h,Az ⟨by omega,h.2⟩]
     rw[Av h,Av λh3=>h ⟨by omega,h3.2⟩]
    rw[Ey,AN,DI (by rw[hu];simp)];simp
   |true=>
    simp only[Ah,Ac];have h0:(0:Int)<=(i:Int):=by omega
    have d:(i:Int)<(a.Knots.length:Int):=by omega
    rw[HZ h0 d];obtain⟨h4,hk⟩:=FD hK h0 d;simp only[Aa];rw[LV<|by omega];simp only[Aa];have inner:Ap (λs:Int×List Int=>FX (TA a.Knots R i) ((B9 a.Knots (i:Int)).Leaf,(B9 a.Knots (i:Int)).Kids) s.1 s.2) (0,(B9 a.Knots (i:Int)).Kids)=some (Y2 a.Knots R i).Kids:=by
     unfold Y2
     cases hl:(B9 a.Knots (i:Int)).Leaf with
     |true=>rw[A0];rfl
     |false=>
      have q:=Og (body:=λs:Int×List Int=>FX (TA a.Knots R i) (false,(B9 a.Knots (i:Int)).Kids) s.1 s.2) (λl k=>(k,l)) (λ_ x=>Oy a.Knots R x) (B9 a.Knots (i:Int)).Kids
       (λk l x t f g=>by
        have m:k<4:=by have:=(Ag.1 g).1;omega
        have ex:x=LH (B9 a.Knots (i:Int)) k:=by have:=(hk k m).1;rw[g]at this;injection this
        simp only[FX];rw[Ad (by omega:(k:Int)<4)];simp only[Ae,Aa,AD];rw[Aw,f];simp only[Aa]
        rcases Gv hK h0 d hl m with e|⟨e1,e2,e3⟩
        ·rw[cF,ad1];have:Oy a.Knots R x=x:=by unfold Oy;rw[Av<|by omega]
         rw[this,show l.set k x=l from by
          apply CE;intro j;rw[Cu];split
          ·rename_i e5;subst e5;rw[Az (Ag.1 f).1,f]
          rfl]
        rw[cT];obtain⟨c,hc⟩:∃c:Nat,x=(c:Int):=⟨x.toNat,by omega⟩;have u:x∈(B9 a.Knots (i:Int)).Kids:=Ar g;have n:=Vg (Za hK hR hu hl) h0 u (by omega);rw[hc]at n;rw[hc,Aw];unfold TA;rw[HI (by omega),Aa,Az ⟨by omega,n⟩,EX,ad1];unfold Oy;rw[Az<|by omega]
        rfl)
       (λl t=>by
        simp only[FX];rw[h4,Af (by omega:¬((4:Nat):Int)<4)]
        rfl)
      rw[IY]at q;exact q
    rw[inner];simp only[Aa];have v:gi (TA a.Knots R i) (i:Int)=some 0:=by
     unfold TA;rw[Aw,HI hi,Av<|by omega]
    rw[v];simp only[Aa];have w:=ACJ (K:=a.Knots) (R:=R) i;have p:(((List.range i).filter<|C9 a.Knots R).map<|Y2 a.Knots R).length=dH a.Knots R i:=by rw[Ba];rfl
    rw[BS (by rw[p];simp;omega),Aa,ad1,Bz,p,EX];refine .inl ⟨(_,_),rfl,?_⟩;congr 1
    ·unfold TA;apply PC;intro j hj;by_cases e:j=i
     ·subst e;rw[Az ⟨by omega,hu⟩,Az rfl]
     rw[Av e];by_cases h:j<i/\C9 a.Knots R j=true
     ·rw[Az h,Az ⟨by omega,h.2⟩]
     rw[Av h,Av λh3=>h ⟨by omega,h3.2⟩]
    rw[Ey,AN,CM hu,JS,Cn]
    rfl)
  (λo ho=>⟨o,by simp only[FY,DT],ho⟩) (s:=(List.replicate a.Knots.length 0,[])) (by
   unfold TA;simp only[Nat.not_lt_zero,false_and,Fq];rw[Nh,CS]
   rfl)
 rw[<-h2];exact h1
theorem qK (a:Arena) (ha:a.Knots.length<=1048576) (R:List Int) (hc:R.length<=1048576) (hR:∀r∈R,DD a.Knots r=true):
  Ap (λs:List Int×Int=>FW (TA a.Knots R a.Knots.length,TM a.Knots R) s.1 s.2) (R,0)=some (R.map (Oy a.Knots R)):=by
 have q:=Og (body:=λs:List Int×Int=>FW (TA a.Knots R a.Knots.length,TM a.Knots R) s.1 s.2) (λl k=>(l,k)) (λ_ x=>Oy a.Knots R x) R
  (λk l x f b d=>by
   have hk:=(Ag.1 d).1;have g:=(Ag.1 b).1;simp only[FW,Ev g,Aw,b,Aa]
   rcases Ca (hR x<|Ar d)with e|⟨e1,e2,e3⟩
   ·rw[cF,ad1];have:Oy a.Knots R x=x:=by unfold Oy;rw[Av<|by omega]
    rw[this,show l.set k x=l from by
     apply CE;intro j;rw[Cu];split
     ·rename_i e5;subst e5
      first
       |rw[Az g,b]
       |exact b.symm
     rfl]
   rw[cT];obtain⟨c,h⟩:∃c:Nat,x=(c:Int):=⟨x.toNat,by omega⟩;have i:=Pz (K:=a.Knots) (Ar d) e1;rw[h]at i;rw[h,Aw];unfold TA;rw[HI (by omega),Aa,Az ⟨by omega,i⟩,EX,ad1];unfold Oy;rw[Az<|by omega]
   rfl)
  (λl f=>by simp only[FW,Bz,f];rw[cF])
 rw[IY]at q;exact q
theorem Zx (a:Arena) (ha:a.Knots.length<=1048576) (hK:CT a.Knots=true) (R:List Int) (hc:R.length<=1048576) (hR:∀r∈R,DD a.Knots r=true):
  K1 a R=some (Arena.mk (TM a.Knots R),R.map (Oy a.Knots R)):=by
 unfold K1;rw[LV (by omega),KA a ha,hK];simp only[Aa];rw[cW a ha R hc hR];simp only[Aa,Ah,Ac];rw[Bz,WK (by omega)<|by omega];simp only[Aa];rw[iS a ha hK R hc hR];simp only[Aa];rw[WK (by omega)<|by omega];simp only[Aa];rw[cX a ha hK R hR];simp only[Aa];rw[qK a ha R hc hR];rfl
theorem bA (p:Nat->Bool) (hp:p i=true):∀{n:Nat},i<n->((List.range n).filter p)[((List.range i).filter p).length]?=some i
 |0,h=>by omega
 |n+1,h=>by
  rw[Ey,AN];by_cases e:i=n
  ·grind
  have h2:=bA p hp<|show i<n by omega
  grind
theorem oM {n:Nat} (p:Nat->Bool) (hp:p i=true) (h:i<n):((List.range i).filter p).length<((List.range n).filter p).length:=(Ag.1<|bA p hp h).1
theorem oL (p:Nat->Bool):∀{n j:Nat},j<((List.range n).filter p).length->∃i,i<n/\p i=true/\((List.range i).filter p).length=j
 |0,j,h=>by simp at h
 |n+1,j,h=>by
  rw[Ey,AN,Ai]at h;by_cases e:j<((List.range n).filter p).length
  ·obtain⟨i,h1,h2,h3⟩:=oL p e
   grind
  grind
theorem iD:(TM K R).length=dH K R K.length:=by unfold TM dH;rw[Ba]
theorem SJ (hu:C9 K R i=true) (hi:i<K.length):B9 (TM K R) (dH K R i:Nat)=Y2 K R i/\dH K R i<(TM K R).length:=by
 have h:=oM (C9 K R) hu hi;have h2:dH K R i<(TM K R).length:=by rw[iD];exact h
 refine⟨?_,h2⟩;unfold B9;rw[Aw];unfold TM;rw[AO];have:=bA (C9 K R) hu hi;rw[show dH K R i=((List.range i).filter<|C9 K R).length from rfl,this];rfl
theorem yL (hj:j<(TM K R).length):∃i,i<K.length/\C9 K R i=true/\dH K R i=j:=by
 rw[iD]at hj;exact oL (C9 K R) hj
theorem AD4 (hu:C9 K R i=true) (h:i<j):dH K R i<dH K R j:=oM _ hu h
theorem Zj (i:Nat):(Y2 K R i).Leaf=(B9 K (i:Int)).Leaf:=rfl
theorem tK (hK:CT K=true) (hi:i<K.length):(Y2 K R i).Kids.length=4:=by
 have:=(GE.1 hK i hi).1;unfold Y2
 grind
theorem tL (hl:(B9 K (i:Int)).Leaf=false) (hj:j<(B9 K (i:Int)).Kids.length):LH (Y2 K R i) j=Oy K R (LH (B9 K (i:Int)) j):=by
 unfold LH Y2
 grind
theorem TL (hl:(B9 K (i:Int)).Leaf=true):(Y2 K R i).Kids=(B9 K (i:Int)).Kids:=by
 unfold Y2;rw[hl];rfl
theorem SY (h:n<0):Oy K R n=n:=by unfold Oy;omega
theorem SZ (n:Nat):Oy K R (n:Int)=(dH K R n:Int):=by rfl
theorem AC6 (hK:CT K=true) (hR:∀r∈R,DD K r=true):CT (TM K R)=true:=by
 rw[GE];intro j hj;obtain⟨i,hi,hu,rfl⟩:=yL hj;rw[(SJ hu hi).1];refine⟨tK hK hi,λn hn=>?_⟩;have h0:(0:Int)<=(i:Int):=by omega
 have h1:(i:Int)<(K.length:Int):=by omega
 obtain⟨h4,hk⟩:=FD hK h0 h1;rw[Zj]
 cases hl:(B9 K (i:Int)).Leaf with
 |true=>
  rw[TL hl]at hn;have:=(GE.1 hK i hi).2 n hn;rw[hl]at this;simpa[PJ]using this
 |false=>
  obtain⟨m,hm,b⟩:=AC hn;rw[tK hK hi]at hm;have e:n=Oy K R (LH (B9 K (i:Int)) m):=by
   rw[<-tL hl (by omega),<-b];unfold LH
   grind
  rcases Gv hK h0 h1 hl hm with k1|⟨k1,k2,k3⟩
  ·rw[k1,SY<|by omega]at e;subst e;rfl
  obtain⟨c,hc⟩:∃c:Nat,LH (B9 K (i:Int)) m=(c:Int):=⟨_,(Bk k1).symm⟩;rw[hc]at e k2 k3;rw[SZ]at e;have a:=Vg (Za hK hR hu hl) h0 (Ar (hk m hm).1) (by omega);rw[hc]at a;have d:c<K.length:=by omega
  have f:dH K R c<dH K R i:=AD4 (by simpa using a) (by omega);subst e;simp only[PJ,Ac,Co,Ce,Aj,A6];refine .inr ⟨by omega,?_⟩;rw[(SJ (by simpa using a) d).1,Zj];exact k3
theorem zI (hR:∀r∈R,DD K r=true) (hr:r∈R):DD (TM K R) (Oy K R r)=true:=by
 rcases Ca (hR r hr)with e|⟨h0,h1,hl⟩
 ·rw[e,SY<|by omega];rfl
 obtain⟨c,rfl⟩:∃c:Nat,r=(c:Int):=⟨_,(Bk h0).symm⟩;have a:=Pz (K:=K) hr h0;rw[AZ]at a;obtain⟨g1,g2⟩:=SJ a (by omega);rw[SZ];unfold DD;rw[Ad (by omega),g1,Zj,hl];simp
theorem tW (hK:CT K=true) (hR:∀r∈R,DD K r=true) (hr:r∈R):EZ (TM K R) (Oy K R r)=EZ K r:=by
 unfold EZ;apply Di;intro s hs;rw[Jl]at hs;unfold Ry
 rcases Ca (hR r hr)with e|⟨h0,h1,hl⟩
 ·rw[e,SY (by omega),Az (by omega),Az<|by omega]
 obtain⟨c,rfl⟩:∃c:Nat,r=(c:Int):=⟨_,(Bk h0).symm⟩;have a:=Pz (K:=K) hr h0;rw[AZ]at a;obtain⟨g1,g2⟩:=SJ a (by omega);obtain⟨h4,hk⟩:=FD hK h0 h1;rw[SZ,g1,tL hl<|by omega];simp only[Av (show¬((dH K R c:Nat):Int)<0 by omega),Av<|show¬((c:Nat):Int)<0 by omega]
 rcases Gv hK h0 h1 hl (show s/4<4 by omega)with k1|⟨k1,k2,k3⟩
 ·rw[k1,SY<|by omega];rfl
 obtain⟨d,hd⟩:∃d:Nat,LH (B9 K (c:Int)) (s/4)=(d:Int):=⟨_,(Bk k1).symm⟩;have b:=Vg hr h0 (Ar (hk (s/4)<|by omega).1) k1;rw[hd]at b k2 k3;rw[hd,SZ];simp only[Av (show¬((dH K R d:Nat):Int)<0 by omega),Av<|show¬((d:Nat):Int)<0 by omega];rw[(SJ (by simpa using b)<|by omega).1];unfold LH;rw[TL k3]
theorem ABv (hK:CT K=true) (hR:∀r∈R,DD K r=true) (hj:j<(TM K R).length):C9 (TM K R) (R.map (Oy K R)) j=true:=by
 obtain⟨i,hi,hu,rfl⟩:=yL hj;have hu':=hu;unfold C9 at hu';rw[CD]at hu';obtain⟨r,hr,h⟩:=hu';unfold Oq at h;simp only[Aj,Co,A6,CD]at h;obtain⟨h0,h⟩:=h;unfold C9;rw[CD];refine⟨Oy K R r,AF.2 ⟨r,hr,rfl⟩,?_⟩;obtain⟨c,rfl⟩:∃c:Nat,r=(c:Int):=⟨_,(Bk h0).symm⟩;rw[SZ];unfold Oq;simp only[Aj,Co,A6,CD];refine⟨by omega,?_⟩
 rcases h with h|⟨n,hn,h⟩
 ·grind
 right
 rcases Ca (hR _ hr)with e|⟨_,h1,hl⟩
 ·omega
 have a:=Pz (K:=K) hr h0;rw[AZ]at a;rw[(SJ a<|by omega).1];refine⟨(dH K R i:Int),?_,rfl⟩;unfold Y2;rw[hl];simp only[Ac,AF];exact⟨n,hn,by rw[h,SZ]⟩
theorem Oi {i:Int} (h0:0<=i) (h:i<(K.length:Int)):B9 (K++X) i=B9 K i:=by
 obtain⟨c,rfl⟩:∃c:Nat,i=(c:Int):=⟨_,(Bk h0).symm⟩;unfold B9;rw[Aw,Aw,Bj<|by omega]
theorem zF (h:DD K r=true):DD (K++X) r=true:=by
 rcases Ca h with e|⟨h0,h1,hl⟩
 ·rw[e];rfl
 unfold DD;rw[Oi h0 h1,hl,Ad<|by grind];simp
theorem tS (hK:CT K=true) (h:DD K r=true):EZ (K++X) r=EZ K r:=by
 unfold EZ;apply Di;intro s hs;rw[Jl]at hs;unfold Ry
 rcases Ca h with e|⟨h0,h1,hl⟩
 ·rw[e];rfl
 rw[Oi h0 h1];simp only[Av<|show¬r<0 by omega]
 rcases Gv hK h0 h1 hl (show s/4<4 by omega)with k1|⟨k1,k2,k3⟩
 ·rw[k1];rfl
 rw[Oi k1<|by omega]
theorem gB (hK:CT K=true) (hr:DD K r=true) (hs:s<16) (n:Int):(OM K r s n).length=4:=by
 unfold OM;rw[G4]
 rcases Ca hr with e|⟨h0,h1,hl⟩
 ·grind
 rw[Av<|by omega]
 rcases Gv hK h0 h1 hl (show s/4<4 by omega)with k1|⟨k1,k2,k3⟩
 ·grind
 rw[Av<|by omega];exact(FD hK k1<|by omega).1
theorem l9 (hK:CT K=true) (hr:DD K r=true) (s:Nat):(T8 K r s).length=4:=by
 unfold T8;rw[G4]
 rcases Ca hr with e|⟨h0,h1,hl⟩
 ·grind
 rw[Av<|by omega];exact(FD hK h0 h1).1
theorem WR:B9 (J0 K r s n) (K.length:Int)=B5.mk true (OM K r s n):=by
 unfold B9 J0;rw[Aw,Bp<|Au _,Ys];rfl
theorem WQ:B9 (J0 K r s n) ((K.length:Int)+1)=B5.mk false (T8 K r s):=by
 unfold B9 J0;rw[show(K.length:Int)+1=((K.length+1:Nat):Int)from rfl,Aw,Bp (by omega),show K.length+1-K.length=1 by omega];rfl
theorem ADf (hK:CT K=true) (hr:DD K r=true) (hs:s<16) (hn:0<=n):CT (J0 K r s n)=true:=by
 rw[GE];intro j hj;have a:(J0 K r s n).length=K.length+2:=by unfold J0;simp
 rw[a]at hj;by_cases h:j<K.length
 ·have hk:B9 (J0 K r s n) (j:Int)=B9 K (j:Int):=Oi (by omega) (by omega);rw[hk];obtain⟨h4,h5⟩:=GE.1 hK j h;refine⟨h4,λm hm=>?_⟩;have:=h5 m hm
  cases hl:(B9 K (j:Int)).Leaf with
  |true=>rw[hl]at this;exact this
  |false=>
   rw[hl]at this;simp only[PJ,Ac,Co,Ce,Aj,A6]at this⊢
   rcases this with e|⟨e1,e2⟩
   ·exact .inl e
   refine .inr ⟨e1,?_⟩;rw[show B9 (J0 K r s n) m=B9 K m from Oi e1.1<|by omega];exact e2
 by_cases e:j=K.length
 ·subst e;rw[WR];refine⟨gB hK hr hs n,λm hm=>?_⟩;simp only[PJ,Ae,A6];unfold OM at hm
  rcases C3 hm with hm|hm
  ·rcases Ca hr with e|⟨h0,h1,hl⟩
   ·grind
   rw[Av<|by omega]at hm
   rcases Gv hK h0 h1 hl (show s/4<4 by omega)with k1|⟨k1,k2,k3⟩
   ·grind
   rw[Av<|by omega]at hm;have hq:=GE.1 hK (LH (B9 K r)<|s/4).toNat (by omega);rw[Bk k1,k3]at hq;have:=hq.2 m hm;simpa[PJ]using this
  omega
 have:j=K.length+1:=by omega
 subst this;rw[show((K.length+1:Nat):Int)=(K.length:Int)+1 from rfl,WQ];refine⟨l9 hK hr s,λm hm=>?_⟩;simp only[PJ,Ac,Co,Ce,Aj,A6];unfold T8 at hm
 rcases C3 hm with hm|hm
 ·rcases Ca hr with e|⟨h0,h1,hl⟩
  ·grind
  rw[Av<|by omega]at hm;obtain⟨q,hq,rfl⟩:=AC hm;obtain⟨h4,hk⟩:=FD hK h0 h1;have e5:=(hk q<|by omega).1;rw[Ab hq]at e5
  injection e5 with e5
  rw[e5]
  rcases Gv hK h0 h1 hl (show q<4 by omega)with k1|⟨k1,k2,k3⟩
  ·exact .inl k1
  refine .inr ⟨by omega,?_⟩;rw[show B9 (J0 K r s n) (LH (B9 K r) q)=B9 K (LH (B9 K r) q)from Oi k1 (by omega)];exact k3
 refine .inr ⟨by omega,?_⟩;rw[hm,WR]
theorem vP:DD (J0 K r s n) ((K.length:Int)+1)=true:=by
 unfold DD;rw[WQ,Ad (by unfold J0;simp;omega)];simp
theorem uB (hK:CT K=true) (hr:DD K r=true) (hs:s<16):EZ (J0 K r s n) ((K.length:Int)+1)=(EZ K r).set s n:=by
 unfold EZ;symm;apply PC;intro t ht;unfold Ry;rw[WQ];simp only[Av<|show¬((K.length:Int)+1)<0 by omega];have b:=l9 hK hr s;have a:=gB hK hr hs n;by_cases hq:t/4=s/4
 ·have e1:LH (B5.mk false<|T8 K r s) (t/4)=(K.length:Int):=by
   unfold LH T8;rw[hq,Cu,Az rfl];unfold T8 at b
   grind
  rw[e1,Av (by omega),WR];have e2:LH (B5.mk true<|OM K r s n) (t %4)=if t %4=s %4 then n else(if r<0 then 0 else if LH (B9 K r) (s/4)<0 then 0 else LH (B9 K<|LH (B9 K r)<|s/4)<|t %4):=by
   unfold LH OM;unfold OM at a;rw[G4]at a;rw[Cu];by_cases e:s %4=t %4
   ·grind
   rw[Av e,Av<|Fj e];have zero:([0,0,0,0]:List Int)[t %4]?.getD 0=0:=by
    have:t %4<4:=by omega
    generalize t %4=q at this
    match q,this with
    |0,_=>rfl
    |1,_=>rfl
    |2,_=>rfl
    |3,_=>rfl
   by_cases c1:r<0
   ·grind
   rw[Av c1,Av c1];unfold LH
   grind
  grind
 rw[Av<|show¬t=s by omega];have e1:LH (B5.mk false<|T8 K r s) (t/4)=if r<0 then-1 else LH (B9 K r) (t/4):=by
  unfold LH T8;rw[Cu,Av<|Fj hq];by_cases c1:r<0
  ·rw[Az c1,Az c1];have:t/4<4:=by omega
   generalize t/4=q at this
   match q,this with
   |0,_=>rfl
   |1,_=>rfl
   |2,_=>rfl
   |3,_=>rfl
  grind
 rw[e1]
 rcases Ca hr with e|⟨h0,h1,hl⟩
 ·rw[e];rfl
 simp only[Av<|show¬r<0 by omega]
 rcases Gv hK h0 h1 hl (show t/4<4 by omega)with k1|⟨k1,k2,k3⟩
 ·rw[k1];rfl
 rw[show B9 (J0 K r s n) (LH (B9 K r)<|t/4)=B9 K (LH (B9 K r)<|t/4)from Oi k1 (by omega)]
def MR (n:Nat) (p:Nat->Bool):Nat:=((List.range n).filter p).length
theorem LR (n:Nat) (p:Nat->Bool):MR (n+1) p=MR n p+(if p n=true then 1 else 0):=by
 unfold MR;rw[Ey,AN,Ai];by_cases h:p n=true
 ·rw[Az h,CM h];rfl
 rw[Av h,DI h];rfl
theorem YN (p q:Nat->Bool):∀n,MR n (λj=>p j||q j)<=MR n p+MR n q
 |0=>by simp[MR]
 |n+1=>by
  have:=YN p q n;rw[LR,LR,LR];cases p n<;>cases q n<;>simp<;>omega
theorem bH (x:Int):∀n,MR n (λj=>decide (x=(j:Int)))<=1/\(x>=(n:Int)->MR n (λj=>decide (x=(j:Int)))=0)
 |0=>by simp[MR]
 |n+1=>by
  obtain⟨h1,h2⟩:=bH x n;rw[LR];by_cases h:x=(n:Int)
  ·have:=h2 (by omega);rw[Az<|by simpa using h];exact⟨by omega,λh3=>by omega⟩
  rw[Av<|by simpa using h];exact⟨by omega,λh3=>by rw[h2<|by omega]⟩
theorem AAN (l:List Int) (n:Nat):MR n (λj=>l.any λx=>decide (x=(j:Int)))<=l.length:=by
 induction l with
 |nil=>simp[MR]
 |cons x l ih=>
  simp only[List.any_cons,A7];have:=YN (λj=>decide<|x=(j:Int)) (λj=>l.any λx=>decide<|x=(j:Int)) n;have:=(bH x n).1;omega
theorem ACf {n:Nat} {q:Nat->Bool} (h:∀j,j<n->p j=true->q j=true):MR n p<=MR n q:=by
 induction n with
 |zero=>simp[MR]
 |succ n ih=>
  have:=ih (λj hj=>h j<|by omega);rw[LR,LR];by_cases e:p n=true
  ·rw[Az e,Az<|h n (by omega) e];omega
  rw[Av e];omega
theorem oS {n:Nat} (h:∀j,j<n->p j=true):MR n p=n:=by
 induction n with
 |zero=>rfl
 |succ n ih=>rw[LR,Az (h n<|by omega),ih λj hj=>h j<|by omega]
theorem ACa (hK:CT K=true) (hr:DD K r=true) (n:Nat):MR n (Oq K r)<=5:=by
 have h1:=YN (λj=>decide<|r=(j:Int)) (λj=>(B9 K r).Kids.any λn=>decide<|n=(j:Int)) n;have h2:=(bH r n).1;have h3:=AAN (B9 K r).Kids n
 have h4:MR n (Oq K r)<=MR n (λj=>decide (r=(j:Int))||(B9 K r).Kids.any λn=>decide<|n=(j:Int)):=ACf λj _ h=>by
  unfold Oq at h;rw[Aj]at h;exact h.2
 rcases Ca hr with e|⟨h0,hl,_⟩
 ·have:MR n (Oq K r)=MR n (λ_=>false):=by rw[e];rfl
  rw[this];unfold MR;rw[Bq.2<|by simp];simp
 have:=(FD hK h0 hl).1;omega
theorem Zb (hK:CT K=true) (n:Nat):∀(R:List Int),(∀r∈R,DD K r=true)->MR n (C9 K R)<=5*R.length
 |[],_=>by simp[MR,C9]
 |r::R,h=>by
  have h1:=Zb hK n R (λx hx=>h x<|by simp[hx]);have h2:=ACa hK (h r<|by simp) n;have h3:=YN (Oq K r) (C9 K R) n;have h4:MR n (C9 K (r::R))=MR n (λj=>Oq K r j||C9 K R j):=rfl;rw[h4,A7];omega
theorem vC (hK:CT K=true) (hR:∀r∈R,DD K r=true):(TM K R).length<=5*R.length:=by
 rw[iD];exact Zb hK _ R hR
def B3 (s:Store):List Int:=s.Vols.map Vol.Root
structure StoreR (s:Store):Prop where
 len:s.Vols.length<=3
 ar:CT s.Arena.Knots=true
 nx:1<=s.Next/\s.Next<=1000000000
 ids:∀v∈s.Vols,1<=v.Id/\v.Id<=9
 asc:(s.Vols.map Vol.Id).Pairwise (·<·)
 root:∀r∈B3 s,DD s.Arena.Knots r=true
 lt:∀r∈B3 s,∀x∈EZ s.Arena.Knots r,x<s.Next
 few:s.Arena.Knots.length<=1000
structure CC (s:Store):Prop extends StoreR s where
 used:∀i,i<s.Arena.Knots.length->C9 s.Arena.Knots (B3 s) i=true
theorem CC.small {s:Store} (h:CC s):s.Arena.Knots.length<=15:=by
 have h1:=Zb h.ar s.Arena.Knots.length (B3 s) h.root;rw[oS h.used]at h1;have:(B3 s).length=s.Vols.length:=by unfold B3;rw[Ba]
 have:=h.len;omega
def By (s:Store):List (Int×List Int):=s.Vols.map λv=>(v.Id,EZ s.Arena.Knots v.Root)
def Lr (s:Store):Store:=Store.mk (s.Vols.map λv=>Vol.mk v.Id<|Oy s.Arena.Knots (B3 s) v.Root) (Arena.mk<|TM s.Arena.Knots<|B3 s) s.Next
theorem Qv (s:Store):B3 (Lr s)=(B3 s).map (Oy s.Arena.Knots (B3 s)):=by
 unfold B3 Lr;simp only[FJ];rfl
theorem tJ {s:Store} (h:StoreR s):CC (Lr s):=by
 have b:(B3 s).length=s.Vols.length:=by unfold B3;rw[Ba]
 refine⟨⟨by unfold Lr;simpa using h.len,AC6 h.ar h.root,h.nx,?_,?_,?_,?_,?_⟩,?_⟩
 ·intro v hv;unfold Lr at hv;simp only[AF]at hv;obtain⟨w,hw,rfl⟩:=hv;exact h.ids w hw
 ·have:((Lr s).Vols.map Vol.Id)=s.Vols.map Vol.Id:=by unfold Lr;simp only[FJ];rfl
  rw[this];exact h.asc
 ·intro r hr;rw[Qv]at hr;obtain⟨q,hq,rfl⟩:=AF.1 hr;exact zI h.root hq
 ·intro r hr;rw[Qv]at hr;obtain⟨q,hq,rfl⟩:=AF.1 hr;have:=tW h.ar h.root hq;intro x hx;have a:x∈EZ s.Arena.Knots q:=by rw[<-this];exact hx
  exact h.lt q hq x a
 ·have:=vC h.ar h.root;have:=h.len;show(TM s.Arena.Knots<|B3 s).length<=1000;omega
 intro i hi;rw[Qv];exact ABv h.ar h.root hi
theorem eW {s:Store} (h:StoreR s):By (Lr s)=By s:=by
 unfold By;show(s.Vols.map λv=>Vol.mk v.Id<|Oy s.Arena.Knots (B3 s) v.Root).map _=_;rw[FJ];apply Di;intro v hv;have:=tW h.ar h.root<|show v.Root∈B3 s from AF.2 ⟨v,hv,rfl⟩;show(v.Id,EZ (TM s.Arena.Knots<|B3 s)<|Oy s.Arena.Knots (B3 s) v.Root)=_;rw[this]
theorem TO (s:Store) (hv:s.Vols.length<=1048576):NV s=some (B3 s):=by
 unfold NV;obtain⟨b,h1,h2⟩:=AP (body:=λq:List Int×Int=>Jx s q.1 q.2) (λ(o:List Int) i=>(o,i)) s.Vols.length (λi o=>o=(s.Vols.take i).map Vol.Root) (λb=>b=B3 s)
  (λo i hi ho=>by
   have hx:=Ab hi;simp only[Jx,Ev hi,Aw,hx,Aa];rw[BS (by rw[ho];simp;omega),Aa,ad1]
   exact .inl ⟨_,rfl,by rw[ho,Eg,hx,Cn];rfl⟩)
  (λo ho=>⟨o,by simp only[Jx,DT],by rw[ho,AM<|Au _];rfl⟩) (s:=[]) rfl
 rw[h1,h2];rfl
theorem Jv {s:Store} (h:StoreR s):Hu s=some (Lr s):=by
 have hl:=h.len;have hf:=h.few;have d:(B3 s).length=s.Vols.length:=by unfold B3;rw[Ba]
 unfold Hu;rw[TO s<|by omega];simp only[Aa];rw[Zx _ (by omega) h.ar _ (by omega) h.root];simp only[Aa];rw[LV<|by omega];simp only[Aa];have q:=Og (body:=λq:Int×List Vol=>Jw ((B3 s).map<|Oy s.Arena.Knots<|B3 s,TM s.Arena.Knots<|B3 s) q.1 q.2) (λl i=>(i,l)) (λ_ v=>Vol.mk v.Id<|Oy s.Arena.Knots (B3 s) v.Root) s.Vols
  (λi l x a b c=>by
   have hi:=(Ag.1 b).1;simp only[Jw,Ev hi];have:gi ((B3 s).map<|Oy s.Arena.Knots<|B3 s) (i:Int)=some (Oy s.Arena.Knots (B3 s) x.Root):=by
    rw[Aw,AO];unfold B3;rw[AO,c];rfl
   rw[this,Aw,b];simp only[Aa]
   rw[EX,ad1])
  (λl a=>by simp only[Jw,Bz,a];rw[cF])
 rw[IY]at q;rw[q];rfl
theorem Zh {s:Store} (h:CC s):Lr s=s:=by
 have c:∀i,i<=s.Arena.Knots.length->dH s.Arena.Knots (B3 s) i=i:=λi hi=>oS λj hj=>h.used j<|by omega
 have a:∀n:Int,n<(s.Arena.Knots.length:Int)->Oy s.Arena.Knots (B3 s) n=n:=λn hn=>by
  unfold Oy;split
  ·rw[c _<|by omega];omega
  rfl
 have b:∀r∈B3 s,Oy s.Arena.Knots (B3 s) r=r:=λr hr=>by
  rcases Ca (h.root r hr)with e|⟨h0,h1,_⟩
  ·rw[e,SY<|by omega]
  exact a r h1
 have d:TM s.Arena.Knots (B3 s)=s.Arena.Knots:=by
  unfold TM;rw[GH.2 λi hi=>h.used i<|by simpa using hi];apply CE;intro i;rw[AO];by_cases hi:i<s.Arena.Knots.length
  ·rw[R8 hi,Ab hi];simp only[Bx];congr 1;have h0:(0:Int)<=(i:Int):=by omega
   have h1:(i:Int)<(s.Arena.Knots.length:Int):=by omega
   unfold Y2
   cases hl:(B9 s.Arena.Knots (i:Int)).Leaf with
   |true=>
    simp only[Ae];rw[<-hl,Oh hi]
   |false=>
    simp only[Ac];have:(B9 s.Arena.Knots (i:Int)).Kids.map (Oy s.Arena.Knots<|B3 s)=(B9 s.Arena.Knots (i:Int)).Kids:=by
     conv=>rhs;rw[<-UX (B9 s.Arena.Knots (i:Int)).Kids]
     apply Di;intro n hn;obtain⟨q,hq,rfl⟩:=AC hn;obtain⟨h4,hk⟩:=FD h.ar h0 h1;have e5:=(hk q<|by omega).1;rw[Ab hq]at e5
     injection e5 with e5
     rw[e5]
     rcases Gv h.ar h0 h1 hl (show q<4 by omega)with k1|⟨k1,k2,k3⟩
     ·rw[k1,SY<|by omega];rfl
     exact a _<|by omega
    rw[this,<-hl,Oh hi]
  rw[Hq (by simpa using hi),Hq<|by omega];rfl
 unfold Lr;rw[d];have:(s.Vols.map λv=>Vol.mk v.Id<|Oy s.Arena.Knots (B3 s) v.Root)=s.Vols:=by
  conv=>rhs;rw[<-UX s.Vols]
  apply Di;intro v hv;rw[b _<|AF.2 ⟨v,hv,rfl⟩];rfl
 rw[this]
theorem bL (hs:s<16):Ry K r s∈EZ K r:=AF.2 ⟨s,by simpa using hs,rfl⟩
theorem Sd {l:List Int} {y:Int} (h:l.Pairwise (·<·)) (a:i<j) (hx:l[i]?=some x) (hy:l[j]?=some y):x<y:=by
 obtain⟨h1,rfl⟩:=Ag.1 hx;obtain⟨h2,rfl⟩:=Ag.1 hy;exact Dq.1 h i j h1 h2 a
theorem RO {s:Store} (h:CC s):PA s=some true:=by
 have hl:=h.len;have hf:=h.few;have d:(B3 s).length=s.Vols.length:=by unfold B3;rw[Ba]
 unfold PA;rw[Bz,cF,KA _ (by omega),h.ar,EP,Ad h.nx];simp only[Aa,Ah,Ac];obtain⟨b,h1,h2⟩:=AP (body:=λq:Int=>K4 s q) (λ(_:Unit) i=>i) s.Vols.length (λ_ _=>True) (λb=>b= .inl ())
  (λ_ i hi _=>by
   have hx:=Ab hi;have hm:s.Vols[i]∈s.Vols:=A5 hi;have hr:s.Vols[i].Root∈B3 s:=AF.2 ⟨_,hm,rfl⟩;simp only[K4,Ev hi,Aw,hx,Aa];rw[EP,Ad<|h.ids _ hm,Nn _ (by omega),h.root _ hr];simp only[Aa,Ah,Ac];have a:(cond (decide<|(i:Int)>0) ((gi s.Vols<|sb (i:Int) 1).bind λx2=>cond (decide<|x2.Id>=s.Vols[i].Id) (some true)<|some false) (some false):Option Bool)=some false:=by
    by_cases h0:i=0
    ·rw[cF]
    rw[cT,Cm,show(i:Int)-1=((i-1:Nat):Int) by omega,Aw,Ab<|by omega];simp only[Aa];have:=Sd h.asc (show i-1<i by omega) (x:=s.Vols[i-1].Id) (y:=s.Vols[i].Id) (by rw[AO,Ab<|by omega];rfl) (by rw[AO,Ab<|by omega];rfl);rw[cF]
   rw[a];simp only[Aa,Ac];obtain⟨c,q1,q2⟩:=AP (body:=λq:Int=>K3 s s.Vols[i] q) (λ(_:Unit) i=>i) 16 (λ_ _=>True) (λb=>b= .inl ())
    (λ_ k hk _=>by
     simp only[K3];rw[cT,X3 _ h.ar (h.root _ hr) hk];simp only[Aa];have:=h.lt _ hr _<|bL hk;rw[cF,ad1]
     exact .inl ⟨(),rfl,trivial⟩)
    (λ_ _=>⟨_,by simp only[K3];rw[cF],rfl⟩) (s:=()) trivial
   rw[q1,q2];simp only[Aa,Bw];rw[ad1]
   exact .inl ⟨(),rfl,trivial⟩)
  (λ_ _=>⟨_,by simp only[K4,DT],rfl⟩) (s:=()) trivial
 rw[h1,h2];simp only[Aa,Bw];rw[TO s (by omega),Aa,Zx _ (by omega) h.ar _ (by omega) h.root];simp only[Aa];have:TM s.Arena.Knots (B3 s)=s.Arena.Knots:=by
  have:=Zh h;unfold Lr at this;have:=BE (λz=>z.Arena.Knots) this;exact this
 rw[this];simp
def Vb (x:B5):Nat:=x.Kids.length
def YQ (x:Arena):Nat:=zl Vb x.Knots
def Lp (x:Store):Nat:=x.Vols.length+YQ x.Arena
def SH (x:AA):Nat:=NK x.Flash+Lp x.Store
def PK (x:Leaf):Nat:=bif x.Is==0 then 1 else 0
theorem AAU (l:List Leaf):(l.map PK).sum<=l.length:=by
 induction l with
 |nil=>simp
 |cons x l ih=>
  have:PK x<=1:=by unfold PK;cases x.Is==0<;>simp
  simp only[BJ,FI,A7];omega
theorem Xm (b:Block) (h:b.Leaves.length<=1048576):IB b=some ((b.Leaves.map PK).sum:Int):=by
 unfold IB;obtain⟨v,h1,rfl⟩:=AP (body:=λs:Int×Int=>Ho b s.1 s.2) (λ(s:Int) i=>(s,i)) b.Leaves.length (λk s=>s=(((b.Leaves.take k).map PK).sum:Nat)) (λv=>v=((b.Leaves.map PK).sum:Nat))
  (λs k hk hs=>by
   have hx:b.Leaves[k]?=some b.Leaves[k]:=Ab hk;have e:=P3 PK b.Leaves k hk;have e2:=Mq PK b.Leaves<|k+1;have e3:=AAU b.Leaves;refine .inl ?_;simp only[Ho,Ev hk,Aw,hx,Aa];have e4:PK b.Leaves[k]=bif b.Leaves[k].Is==0 then 1 else 0:=rfl
   cases hb:b.Leaves[k].Is==0 with
   |true=>
    rw[hb]at e4;simp only[Ae]at e4⊢;rw[ad1,Cy];exact⟨_,rfl,by omega⟩
   |false=>
    rw[hb]at e4;simp only[Ac]at e4⊢;rw[ad1]
    exact⟨_,rfl,by omega⟩)
  (λs hs=>⟨s,by simp only[Ho,DT],by rw[AW]at hs;exact hs⟩) (s:=0) (by simp)
 rw[h1];rfl
theorem T4 (f:Flash) (hf:JR f) (hn:nl f.Blocks<=1048576):∃v:Int,M1 f=some v/\MJ f=some v/\0<=v/\v<=nl f.Blocks:=by
 unfold M1 MJ;obtain⟨v,h1,h2,h3⟩:=Sj (body:=λs:Int×Int=>M0 f s.1 s.2) (body':=λs:Int×Int=>MI f s.1 s.2) (λ(s:Int) i=>(s,i)) (λ(s:Int) i=>(s,i)) f.Blocks.length (λi n=>0<=n/\n<=(((f.Blocks.take i).map λb=>b.Leaves.length).sum:Nat)) (λv=>0<=v/\v<=nl f.Blocks)
  (λn i hi hs=>by
   have hb:f.Blocks[i]?=some f.Blocks[i]:=Ab hi;have hm:f.Blocks[i]∈f.Blocks:=A5 _;have d:=P3 (λb:Block=>b.Leaves.length) f.Blocks i hi;have g:=Mq (λb:Block=>b.Leaves.length) f.Blocks<|i+1;unfold nl at hn;have h:=hf.1;have c:=hf.2 _ hm;have j:=AAU f.Blocks[i].Leaves;refine .inl ?_;simp only[M0,MI,Ev hi,Aw,hb,Aa,Xm _ c];obtain⟨u,q1,rfl⟩:=AP (body:=λs:Int×Int=>Mz f (i:Int) s.1 s.2) (λ(s:Int) i=>(s,i)) f.Blocks[i].Leaves.length (λk s=>s=n+(bif f.Blocks[i].Bad then 0 else((f.Blocks[i].Leaves.take k).map PK).sum:Nat)) (λv=>v=n+(bif f.Blocks[i].Bad then 0 else(f.Blocks[i].Leaves.map PK).sum:Nat))
    (λs k hk hs=>by
     have hx:f.Blocks[i].Leaves[k]?=some f.Blocks[i].Leaves[k]:=Ab hk;have e:=P3 PK f.Blocks[i].Leaves k hk;have e2:=Mq PK f.Blocks[i].Leaves<|k+1;refine .inl ?_;simp only[Mz,Aw,hb,Aa,Ev hk,hx]
     cases a:f.Blocks[i].Bad with
     |true=>
      rw[a]at hs;simp only[Ah,Ac,Ae]at hs⊢;rw[ad1];exact⟨_,rfl,hs⟩
     |false=>
      rw[a]at hs;simp only[AD,Ac,Ae]at hs⊢;have e4:PK f.Blocks[i].Leaves[k]=bif f.Blocks[i].Leaves[k].Is==0 then 1 else 0:=rfl
      cases hb:f.Blocks[i].Leaves[k].Is==0 with
      |true=>
       rw[hb]at e4;simp only[Ae]at e4⊢;rw[ad1,Cy];exact⟨_,rfl,by omega⟩
      |false=>
       rw[hb]at e4;simp only[Ac]at e4⊢;rw[ad1]
       exact⟨_,rfl,by omega⟩)
    (λs hs=>⟨s,by simp only[Mz,Aw,hb,Aa,DT],by rw[AW]at hs;exact hs⟩) (s:=n) (by cases f.Blocks[i].Bad<;>simp)
   rw[q1];simp only[Aa]
   cases f.Blocks[i].Bad with
   |true=>
    simp only[Ae,Ah,Ac];rw[ad1];exact⟨_,rfl,by simp,by omega,by omega⟩
   |false=>
    simp only[Ae,AD,Ac];rw[ad1,Cy]
    exact⟨_,rfl,rfl,by omega,by omega⟩)
  (λn hs=>by
   rw[AW]at hs
   exact⟨n,by simp only[M0,DT],by simp only[MI,DT],hs⟩) (s:=0) (by simp)
 rw[h1,h2];exact⟨v,rfl,rfl,h3⟩
theorem AAl (s:ByteArray) (f a:Int):NX s f a=Ap (λn:Int=>Gw s a f n) 0:=by
 show(Ap (λn:Int=>Gw s a f n) 0).bind _=_;simp
theorem AAk (s:ByteArray) (f a:Nat) (hf:f<a) (ha:a<=(L s).length) (hs:(L s).length<=64):∃k:Nat,Ap (λn:Int=>Gw s (a:Int) (f:Int) n) 0=some (k:Int)/\k<=31/\a+k<=(L s).length:=by
 obtain⟨b,h1,k,rfl,h2,h3⟩:=AP (body:=λn:Int=>Gw s (a:Int) (f:Int) n) (λ(_:Unit) i=>i) 31 (λi _=>a+i<=(L s).length) (λb=>∃k:Nat,b=(k:Int)/\k<=31/\a+k<=(L s).length)
  (λ_ i hi hs=>by
   simp only[Gw];rw[cT,Cy,Cy,B8];by_cases c:a+i<(L s).length
   ·rw[cT];have e1:((f:Int)+(i:Int))=((f+i:Nat):Int):=by omega
    have e2:((a:Int)+(i:Int))=((a+i:Nat):Int):=by omega
    rw[e1,e2,Fk s (by omega),Fk s c];simp only[Aa]
    cases((((L s)[f+i]).toNat:Int)==(((L s)[a+i]).toNat:Int))with
    |true=>
     simp only[Ae];rw[ad1];exact .inl ⟨(),rfl,by omega⟩
    |false=>grind
   grind)
  (λ_ hs=>by
   simp only[Gw];rw[cF]
   exact⟨_,rfl,31,rfl,by omega,hs⟩) (s:=()) (by omega)
 grind
theorem rB (s:ByteArray) (a:Nat) (ha:a<=(L s).length) (hs:(L s).length<=64):∃z b:Nat,Tg s (a:Int)=some ((z:Int),(b:Int))/\Ap (λq:Int×Int×Int=>ED s (a:Int) q.1 q.2.1 q.2.2) (0,0,sb (a:Int) 1)=some ((z:Int),(b:Int))/\z<=31/\a+z<=(L s).length/\(z=0\/4<=z/\1<=b/\b<=a):=by
 have c:(λq:Int×Int×Int=>ED s (a:Int) q.1 q.2.1 q.2.2)=λq:Int×Int×Int=>H1 s (a:Int) q.1 q.2.1 q.2.2:=by
  funext ⟨x,y,z⟩;simp only[ED,H1,AAl]
 rw[c,Cm];obtain⟨r,h1,z,b,rfl,h2,h3,h4⟩:=AP (body:=λq:Int×Int×Int=>H1 s (a:Int) q.1 q.2.1 q.2.2) (λ(q:Nat×Nat) i=>((q.1:Int),(q.2:Int),(a:Int)-1-i)) a (λi q=>q.1<=31/\a+q.1<=(L s).length/\(q.1=0\/4<=q.1/\1<=q.2/\q.2<=a)) (λr=>∃z b:Nat,r=((z:Int),(b:Int))/\z<=31/\a+z<=(L s).length/\(z=0\/4<=z/\1<=b/\b<=a))
  (λq i hi hq=>by
   obtain⟨k,m1,m2,m3⟩:=AAk s (a-1-i) a (by omega) ha hs;have e1:((a:Int)-1-(i:Int))=((a-1-i:Nat):Int):=by omega
   simp only[H1,e1];rw[Ad (by omega:(((a-1-i:Nat)):Int)>=0),Ae,m1,Aa,Cm,Cm];refine .inl ?_;have e2:(((a-1-i:Nat):Int)-1)=(a:Int)-1-((i+1:Nat):Int):=by omega
   have e3:((a:Int)-((a-1-i:Nat):Int))=((1+i:Nat):Int):=by omega
   rw[e2,e3];by_cases h4:4<=k
   ·rw[cT];by_cases h5:q.1<k
    ·rw[Ad (by omega:(k:Int)>(q.1:Int))];exact⟨(k,1+i),rfl,m2,m3,.inr ⟨h4,by omega,by omega⟩⟩
    grind
   grind)
  (λq hq=>by
   simp only[H1]
   grind) (s:=(0,0)) ⟨by omega,by omega,.inl rfl⟩
 have e0:(((0:Nat):Int),((0:Nat):Int),(a:Int)-1-0)=((0:Int),(0:Int),(a:Int)-1):=by simp
 simp only[e0]at h1;refine⟨z,b,?_,h1,h2,h3,h4⟩;unfold Tg;rw[Cm,h1];rfl
def Vl (t:Bh):Prop:=(t.Back=0/\t.Size=0/\1<=(L t.Text).length/\(L t.Text).length<=31)\/(1<=t.Back/\t.Back<=64/\4<=t.Size/\t.Size<=31/\L t.Text=[])
theorem Fv (l:List α) (x:α):gi (l++ [x]) (l.length:Int)=some x:=by
 rw[Aw];simp
theorem JW (l:List α) (x y:α):si (l++ [x]) (l.length:Int) y=l++ [y]:=by
 rw[EX];simp
theorem pB (s:ByteArray) (hs:(L s).length<=64):∃l,L7 s=some l/\QF s=some l/\l.length<=64/\∀t∈l,Vl t:=by
 unfold L7 QF;rw[B8,Af (by omega:¬((L s).length:Int)>64),Ac,Ac];obtain⟨l,h1,h2,h3,h4⟩:=Tc (body:=λq:List Bh×Int=>Cr s q.1 q.2) (body':=λq:List Bh×Int=>Mj s q.1 q.2) (λq=>(L s).length-q.2.toNat)
  (λq=>∃a:Nat,q.2=(a:Int)/\a<=(L s).length/\q.1.length<=a/\∀t∈q.1,Vl t) (λl=>l.length<=64/\∀t∈l,Vl t)
  (by
   rintro⟨f,at_⟩ ⟨a,ha,h1,h2,h3⟩;simp only at ha h2 h3;subst ha;simp only[Cr,Mj];rw[B8];by_cases i:a<(L s).length
   ·rw[Ad (by omega:(a:Int)<((L s).length:Int)),Ae,Ae];obtain⟨z,b,m1,m2,m3,m4,m5⟩:=rB s a h1 hs;rw[m1,m2];simp only[Aa]
    have c:∀x:Bh,ap 32 f [x]=some (f++ [x]):=λx=>BS<|by grind
    refine .inl ?_;by_cases hz:z=0
    ·subst hz;rw[Af (by omega:¬((0:Nat):Int)>0),Ac,Ac];have esub:sub s (a:Int) (ad (a:Int) 1)=some (s.extract a<|a+1):=by rw[ad1];exact FM s (by omega) (by omega)
     have elen:(L<|s.extract a<|a+1).length=1:=by rw[IR];simp;omega
     rw[esub,ad1,Cm (by rw[Bz];omega) (by rw[Bz];omega),Bz]
     have ecat:∀x:ByteArray,(L x).length<=31->Ic x (s.extract a<|a+1)=some (x++s.extract a (a+1)):=λx hx=>FV _ _ (by rw[elen];omega)
     have e0:Ic (bs []) (s.extract a<|a+1)=some (s.extract a<|a+1):=by
      rw[ecat _ (by rw[EU];simp)];rfl
     have enew:Vl (Bh.mk 0 0<|s.extract a<|a+1):= .inl ⟨rfl,rfl,by grind,by grind⟩
     have d:∀(o:List Bh) (x:Bh),(∀t∈o,Vl t)->Vl x->∀t∈o++ [x],Vl t:=λo x ho hx t ht=>by grind
     have fin:∀o:List Bh,o.length<=a+1->(∀t∈o,Vl t)->(∃a':Nat,((a+1:Nat):Int)=(a':Int)/\a'<=(L s).length/\o.length<=a'/\∀t∈o,Vl t)/\(L s).length-(((a+1:Nat)):Int).toNat<(L s).length-((a:Int)).toNat:=λo g h=>⟨⟨a+1,rfl,by omega,g,h⟩,by omega⟩
     rcases Hr f with rfl|⟨o,x,rfl⟩
     ·simp only[BU,Int.ofNat_zero,Int.zero_sub];rw[Ad (by omega:(-1:Int)<0),Af (by omega:¬(-1:Int)>=0)];simp only[Ae,Ac,Aa,c];rw[show ad (-1) 1=(([]:List Bh).length:Int)from rfl];simp only[Fv,Aa,e0,JW];exact⟨_,rfl,rfl,fin _ (by simp)<|d _ _ (by simp) enew⟩
     rw[Hs]at h2 h3 c⊢;simp only[Ai,A8]at h2⊢;have ek:(((o.length+1:Nat):Int)-1)=(o.length:Int):=by omega
     rw[ek,Af (by omega:¬(o.length:Int)<0),Ad (by omega:(o.length:Int)>=0)];simp only[Ae,Ac,Fv,Aa];have hx:=h3 x (by simp);have e:=d (o++ [x]) _ h3 enew;have elast:ad (o.length:Int) 1=((o++ [x]).length:Int):=by rw[ad1];simp
     rcases hx with⟨x1,x2,x3,x4⟩|⟨x1,x2,x3,x4,x5⟩
     ·rw[x1];simp only[show((0:Int)==0)=true from rfl,Ae,show decide ((0:Int)>0)=false from rfl,Ac];rw[B8];by_cases h31:(L x.Text).length<31
      ·rw[Ad (by omega:((L x.Text).length:Int)<31),Af (by omega:¬((L x.Text).length:Int)>=31)];simp only[Ae,Ac,Aa,Fv,ecat _ x4,JW];simp only[x1];refine⟨_,rfl,rfl,fin _ (by simp;omega)<|d _ _ (λt ht=>h3 t<|by simp[ht])<|.inl ⟨rfl,x2,?_,?_⟩⟩
       ·simp only;rw[DZ,Ai,elen];omega
       simp only;rw[DZ,Ai,elen];omega
      rw[Af (by omega:¬((L x.Text).length:Int)<31),Ad (by omega:((L x.Text).length:Int)>=31)];simp only[Ae,Ac,Aa,c,elast,Fv,e0,JW];exact⟨_,rfl,rfl,fin _ (by simp;omega) e⟩
     have hb:(x.Back==0)=false:=by simp;omega
     rw[hb,Ad (by omega:x.Back>0)];simp only[Ae,Ac,Aa,c,elast,Fv,e0,JW];exact⟨_,rfl,rfl,fin _ (by simp;omega) e⟩
    rw[Ad (by omega:(z:Int)>0),Ae,Ae,c];simp only[Aa];rw[Cy];refine⟨_,rfl,rfl,⟨a+z,by simp,by omega,by simp;omega,?_⟩,by simp only;omega⟩;intro t ht
    rcases Ak.1 ht with ht|ht
    ·exact h3 t ht
    rw[AE]at ht;subst ht;refine .inr ⟨?_,?_,?_,?_,by rfl⟩<;>simp only<;>omega
   grind) ((L s).length) ([],0) (by simp) ⟨0,rfl,by omega,by simp,by simp⟩
 grind
theorem Vn (l m:List Int):L (Fl (l++m))=L (Fl l)++L (Fl m):=by rw[LX,LX,LX,Cn]
theorem NO (l:List Int):(L (Fl l)).length=l.length:=by rw[LX,Ba]
theorem yN (b:ByteArray):L (Fl (qG b))=L b:=by
 rw[LX,qG,FJ];have:((λn:Int=>UInt8.ofNat n.toNat)∘λc:UInt8=>(c.toNat:Int))=id:=by
  funext c;simp
 rw[this,UX];rfl
theorem AAY (l:List Int) (b:ByteArray):aps l b=ap 1 l (qG b):=by
 have:(qG b).length=b.size:=by simp[qG]
 unfold aps ap
 grind
theorem iL (b:ByteArray):(qG b).length=(L b).length:=by simp[qG,L]
theorem Ye (s:ByteArray):∃z ok,EY s=some (z,ok)/\LM s=some (z,ok)/\(ok=false->z=bs [])/\(ok=true->(L s).length<=64/\((L z)[0]?=some 122\/(L z)[0]?=some 114)):=by
 unfold EY LM;rw[B8];by_cases hs:(L s).length<=64
 ·rw[Af (by omega:¬((L s).length:Int)>64),Ac,Ac];obtain⟨l,t1,t2,t3,t4⟩:=pB s hs;rw[t1,t2];simp only[Aa];obtain⟨z,v,h1,h2,rfl,h3,h4⟩:=f8 (body:=λq:ByteArray×Int=>Ft l q.1 q.2) (body':=λq:List Int×Int=>J9 l q.1 q.2) (λv i=>(Fl v,i)) (λv i=>(v,i)) l.length (λi v=>v.length<=1+33*i/\(L<|Fl v)[0]?=some 122) (λz v=>z=Fl v/\v.length<=4000/\(L<|Fl v)[0]?=some 122)
   (λv i hi hv=>by
    have hg:l[i]?=some l[i]:=Ab hi;have c:=hv.1;have ht:=t4 _<|A5 hi;refine .inl ?_;simp only[Ft,J9,KH,Ad hi,Ae,Aw,hg,Aa]
    have b:∀(a:ByteArray) (m:List Int),(L a).length<=4000->m.length<=2->Ic a (Fl m)=some (a++Fl m):=λa m h1 h2=>FV _ _ (by rw[NO];omega)
    have h0:∀m:List Int,(L<|Fl<|v++m)[0]?=some 122:=λm=>by
     rw[Vn,Bj]
     ·exact hv.2
     grind
    rcases ht with⟨x1,x2,x3,x4⟩|⟨x1,x2,x3,x4,x5⟩
    ·rw[x1];simp only[show((0:Int)==0)=true from rfl,Ae,show decide ((0:Int)>0)=false from rfl,Ac];rw[b _ _ (by rw[NO];omega) (by simp),BS<|by grind];simp only[Aa];rw[FV _ _ (by rw[DZ,Ai,NO,NO];grind),AAY,BS (by rw[iL];grind)];simp only[Aa];rw[ad1<|by omega];refine⟨v++([IntKind.u8.wrap<|FO l[i].Text]++qG l[i].Text),?_,by simp,?_,h0 _⟩
     ·congr 4;apply Lg;rw[DZ,DZ,Vn,Vn,yN,Ax]
     simp only[Ai,A8,iL];omega
    have hb:(l[i].Back==0)=false:=by simp;omega
    rw[hb,Ad (by omega:l[i].Back>0)];simp only[Ae,Ac];rw[b _ _ (by rw[NO];omega) (by simp),BS<|by grind];simp only[Aa];rw[ad1<|by omega];refine⟨v++ [IntKind.u8.wrap<|ad 128 l[i].Size,IntKind.u8.wrap l[i].Back],?_,rfl,?_,h0 _⟩
    ·congr 4;apply Lg;rw[DZ,Vn]
    grind)
   (λv hv=>⟨_,_,by simp only[Ft,KH,FH,LQ,Ac],by simp only[J9,KH,FH,LQ,Ac],rfl,by omega,hv.2⟩) (s:=[122]) ⟨by simp,by rw[LX];rfl⟩
  have e0:(Fl [122],(0:Int))=(bs [122],(0:Int)):=by rfl
  simp only[e0]at h1;rw[h1,h2];simp only[Aa];rw[B8,NO,Bz,Cy (by omega)<|by omega];by_cases hc:((L s).length:Int)+1<=(v.length:Int)
  ·rw[Ad hc,Ae,FV _ _ (by rw[EU];grind)];refine⟨_,true,rfl,rfl,by simp,λ_=>⟨hs,.inr ?_⟩⟩;rfl
  rw[Af hc,Ac]
  grind
 rw[Ad (by omega:((L s).length:Int)>64),Ae,Ae];simp
def Rr (t:Bh):Prop:=(t.Back=0/\t.Size=0/\1<=(L t.Text).length/\(L t.Text).length<=31)\/(t.Back≠0/\1<=t.Size/\t.Size<=31/\L t.Text=[])
theorem lG:PO=Gc:=by
 funext l;unfold PO Gc;have hb:Nz l=Em l:=by
  funext out y;unfold Nz Em
  cases decide (y<ln l)with
  |false=>rfl
  |true=>
   simp only[Ae]
   cases gi l y with
   |none=>rfl
   |some t=>
    simp only[Aa,bC,Rv,AAY]
    have h2:(λs:List Int×Int=>QM t s.1 s.2)=λs:List Int×Int=>El t s.1 s.2:=rfl
    grind
 rw[hb]
theorem Rn (l:List Bh) (hl:l.length<=1048576):∃p ok,Gc l=some (p,ok)/\(ok=true->∀t∈l,Rr t):=by
 unfold Gc;obtain⟨r,h1,h2⟩:=AP (body:=λq:List Int×Int=>Em l q.1 q.2) (λ(o:List Int) i=>(o,i)) l.length (λi o=>o.length<=64/\∀(j:Nat) t,j<i->l[j]?=some t->Rr t) (λr=>(∃o,r= .inl o/\∀t∈l,Rr t)\/r= .inr (bs [],false))
  (λo i hi ho=>by
   have hg:l[i]?=some l[i]:=Ab hi;obtain⟨e,f⟩:=ho;simp only[Em,Ev hi,Aw,hg,Aa,Rv];have bad:∀k:(List Int)⊕((List Int×Int)⊕(List Int)⊕(ByteArray×Bool)),k= .inr (.inr<|.inr (bs [],false))->∃b,(some k).bind (Sum.elim (λj1=>cond (decide<|(ln j1)>64) (some<|.inr<|.inr (bs [],false))<|some<|.inl (j1,ad (i:Int) 1)) some)=some (.inr b)/\((∃o,b= .inl o/\∀t∈l,Rr t)\/b= .inr (bs [],false)):=by simp
   have good:∀(o':List Int),Rr l[i]->(∃s',(some (.inl o':(List Int)⊕(List Int×Int)⊕(List Int)⊕(ByteArray×Bool))).bind (Sum.elim (λj1=>cond (decide<|(ln j1)>64) (some<|.inr<|.inr (bs [],false))<|some<|.inl (j1,ad (i:Int) 1)) some)=some (.inl (s',((i+1:Nat):Int)))/\s'.length<=64/\∀(j:Nat) t,j<i+1->l[j]?=some t->Rr t)\/∃b,(some (.inl o':(List Int)⊕(List Int×Int)⊕(List Int)⊕(ByteArray×Bool))).bind (Sum.elim (λj1=>cond (decide<|(ln j1)>64) (some<|.inr<|.inr (bs [],false))<|some<|.inl (j1,ad (i:Int) 1)) some)=some (.inr b)/\((∃o,b= .inl o/\∀t∈l,Rr t)\/b= .inr (bs [],false)):=by
    intro o' ht;simp only[Aa,Bw];by_cases h64:o'.length<=64
    ·rw[Af (by rw[Bz];omega),Ac,ad1]
     grind
    rw[Ad (by rw[Bz];omega),Ae];simp
   by_cases hb:l[i].Back=0
   ·rw[hb];simp only[show((0:Int)==0)=true from rfl,Ae];rw[B8];by_cases hx:(1<=(L l[i].Text).length/\(L l[i].Text).length<=31)/\l[i].Size=0
    ·obtain⟨⟨c,d⟩,a⟩:=hx;rw[Ad (by omega:(1:Int)<=((L l[i].Text).length:Int)),Ad (by omega:((L l[i].Text).length:Int)<=31),a];simp only[Ib,Ah,Ac,Aa,show((0:Int) !=0)=false from rfl];rw[BS (by rw[iL];omega)];simp only[Aa];exact good _<|.inl ⟨hb,a,c,d⟩
    grind
   have hb':(l[i].Back==0)=false:=by simpa using hb
   rw[hb'];simp only[Ac];rw[Bz,Rt,EU];by_cases hx:(1<=l[i].Back/\l[i].Back<=(o.length:Int))/\(1<=l[i].Size/\l[i].Size<=31)/\L l[i].Text=[]
   ·obtain⟨⟨y1,y2⟩,⟨y3,y4⟩,y5⟩:=hx;rw[Ad y1,Ad y2,Ad y3,Ad y4,Ad y5];simp only[Ib,Ah,Ac,Aa];obtain⟨o',q1,q2⟩:=AP (body:=λq:List Int×Int=>El l[i] q.1 q.2) (λ(o:List Int) k=>(o,k)) l[i].Size.toNat (λk u=>u.length=o.length+k) (λ_=>True)
     (λu k hk hu=>by
      simp only[El];rw[cT,Cm (by rw[Bz];omega) (by rw[Bz];omega),Bz,KX (by omega) (by omega),Aa,BS (by grind),ad1]
      grind)
     (λu hu=>⟨u,by simp only[El];rw[cF],trivial⟩) (s:=o) (by omega)
    rw[q1];simp only[Aa];exact good _<|.inr ⟨hb,y3,y4,y5⟩
   grind)
  (λo ho=>⟨_,by simp only[Em,DT],.inl ⟨o,rfl,λt ht=>by
   obtain⟨j,hj,rfl⟩:=AC ht
   simp_all⟩⟩) (s:=[]) ⟨by simp,λj t hj=>by omega⟩
 grind
theorem Yx (c:UInt8):IntKind.i64.wrap (c.toNat:Int)=(c.toNat:Int):=Px (by omega) (by have:=c.toNat_lt;omega)
theorem eS (rem:ByteArray) (a:List Bh) (h:0<(L rem).length) (ho:a.length<=1048576) (hr:(L rem).length<=1048576):
  DN rem a=some (if 128<=(L rem)[0].toNat/\2<=(L rem).length then .inl (rem.extract 2 (L rem).length,a++ [Bh.mk (((L rem)[1]?.getD 0).toNat:Int) (((L rem)[0].toNat:Int)-128) (bs [])])
   else if(L rem)[0].toNat<128/\(L rem)[0].toNat<(L rem).length then .inl (rem.extract (1+(L rem)[0].toNat) (L rem).length,a++ [Bh.mk 0 0 (rem.extract 1 (1+(L rem)[0].toNat))])
   else .inr (.inr ([],false))):=by
 have d:=(L rem)[0].toNat_lt;have b:seq rem (bs [])=false:=by
  rw[Rt,EU,DH]
  grind
 have c:∀x:Bh,ap 32 a [x]=some (a++ [x]):=λx=>BS<|by grind
 unfold DN;rw[b];have s0:sx rem 0=some ((L rem)[0].toNat:Int):=Fk rem (i:=0) h;simp only[AD,Ae,s0,Aa,Yx,B8,c];have c0:ad 1 ((L rem)[0].toNat:Int)=((1+(L rem)[0].toNat:Nat):Int):=by rw[Cy];omega
 rw[c0];by_cases h1:128<=(L rem)[0].toNat
 ·rw[Ad (by omega:((L rem)[0].toNat:Int)>=128),Af (by omega:¬((L rem)[0].toNat:Int)<128)];simp only[Ae,Ac,Aa];by_cases h2:2<=(L rem).length
  ·rw[cT,Az ⟨h1,h2⟩];have s1:sx rem 1=some ((L rem)[1].toNat:Int):=Fk rem (i:=1) (by omega);have s2:sub rem 2 ((L rem).length:Int)=some (rem.extract 2 (L rem).length):=FM rem (i:=2) h2<|Au _;rw[s1,s2,Cm];simp only[Aa,Yx]
   grind
  grind
 rw[Af (by omega:¬((L rem)[0].toNat:Int)>=128),Ad (by omega:((L rem)[0].toNat:Int)<128),Av λe=>h1 e.1];simp only[Ae,Ac,Aa];by_cases h2:(L rem)[0].toNat<(L rem).length
 ·rw[cT,Az ⟨by omega,h2⟩];have s1:sub rem 1 ((1+(L rem)[0].toNat:Nat):Int)=some (rem.extract 1<|1+(L rem)[0].toNat):=FM rem (i:=1) (by omega) (by omega);have s2:sub rem ((1+(L rem)[0].toNat:Nat):Int) ((L rem).length:Int)=some (rem.extract (1+(L rem)[0].toNat) (L rem).length):=FM rem (by omega) (Au _)
  grind
 grind
theorem Zf (rem:ByteArray) (a:List Bh) (h:(L rem).length=0):DN rem a=some (.inr (.inl a)):=by
 have b:seq rem (bs [])=true:=by
  rw[Rt,EU,A6]
  grind
 unfold DN;rw[b];rfl
theorem eQ (t:ByteArray) (b:List Bh) (a:Nat) (h:a<(L t).length) (ho:b.length<=1048576) (hr:(L t).length<=1048576):
  BX t b (a:Int)=some (if 128<(L t)[a].toNat then(if a+2<=(L t).length then .inl (b++ [Bh.mk (((L t)[a+1]?.getD 0).toNat:Int) (((L t)[a].toNat:Int)-128) (bs [])],((a+2:Nat):Int))else .inr (.inr (b,false)))
   else if a+1+(L t)[a].toNat<=(L t).length then .inl (b++ [Bh.mk 0 0 (t.extract (a+1) (a+1+(L t)[a].toNat))],((a+1+(L t)[a].toNat:Nat):Int))
   else .inr (.inr (b,false))):=by
 have d:=(L t)[a].toNat_lt
 have c:∀x:Bh,ap 32 b [x]=some (b++ [x]):=λx=>BS<|by grind
 have c2:ad (a:Int) 2=((a+2:Nat):Int):=by rw[Cy];omega
 have c3:ad ((a+1:Nat):Int) ((L t)[a].toNat:Int)=((a+1+(L t)[a].toNat:Nat):Int):=by rw[Cy];omega
 unfold BX;rw[B8,cT,Fk t h];simp only[Aa,Yx,c];rw[c2,ad1,c3];by_cases h1:128<(L t)[a].toNat
 ·rw[cT,Az h1];by_cases h2:a+2<=(L t).length
  ·rw[cF,Az h2,Fk t (by omega:a+1<(L t).length),Cm];simp only[Aa,Yx]
   grind
  grind
 rw[cF,Av h1];by_cases h2:a+1+(L t)[a].toNat<=(L t).length
 ·rw[Af (by omega:¬((a+1+(L t)[a].toNat:Nat):Int)>((L t).length:Int)),Ac,Az h2,FM t (by omega) h2];rfl
 grind
theorem Ze (t:ByteArray) (b:List Bh) (a:Nat) (h:(L t).length<=a):BX t b (a:Int)=some (.inr (.inl b)):=by
 unfold BX;rw[B8,cF]
theorem yH (rem:ByteArray) (a:List Bh) (h:a.length+(L rem).length<=1048576):∃r,Ap (λq:ByteArray×List Bh=>DN q.1 q.2) (rem,a)=some r/\((∃l,r= .inl l/\l.length<=1048576/\∀t∈a,t∈l)\/r= .inr ([],false)):=by
 obtain⟨r,h1,_,h2⟩:=Tc (body:=λq:ByteArray×List Bh=>DN q.1 q.2) (body':=λq:ByteArray×List Bh=>DN q.1 q.2) (λq=>(L q.1).length) (λq=>q.2.length+(L q.1).length<=1048576/\∀t∈a,t∈q.2) (λr=>(∃l,r= .inl l/\l.length<=1048576/\∀t∈a,t∈l)\/r= .inr ([],false))
  (by
   rintro⟨rem,o⟩ ⟨hl,ho⟩;simp only at hl ho;simp only
   rcases TF (L rem).length with h0|h0
   ·rw[Zf rem o h0]
    grind
   rw[eS rem o h0 (by omega)<|by omega];split
   ·rename_i hc;refine .inl ⟨_,rfl,rfl,⟨?_,λt ht=>AH _<|ho t ht⟩,?_⟩
    ·simp only[Ai,A8,IR,AU,Cb];omega
    simp only[IR,AU,Cb];omega
   split
   ·rename_i hc;refine .inl ⟨_,rfl,rfl,⟨?_,λt ht=>AH _<|ho t ht⟩,?_⟩
    ·simp only[Ai,A8,IR,AU,Cb];omega
    simp only[IR,AU,Cb];omega
   simp) _ (rem,a) (Au _) ⟨h,λt ht=>ht⟩
 grind
theorem yG (t:ByteArray) (b:List Bh) (a:Nat) (ha:a<=(L t).length) (h:b.length<=a) (hr:(L t).length<=1048576):∃r,Ap (λq:List Bh×Int=>BX t q.1 q.2) (b,(a:Int))=some r/\((∃l,r= .inl l/\l.length<=1048576/\∀x∈b,x∈l)\/∃l,r= .inr (l,false)/\l.length<=1048576):=by
 obtain⟨r,h1,_,h2⟩:=Tc (body:=λq:List Bh×Int=>BX t q.1 q.2) (body':=λq:List Bh×Int=>BX t q.1 q.2) (λq=>(L t).length-q.2.toNat) (λq=>∃a:Nat,q.2=(a:Int)/\a<=(L t).length/\q.1.length<=a/\∀x∈b,x∈q.1) (λr=>(∃l,r= .inl l/\l.length<=1048576/\∀x∈b,x∈l)\/∃l,r= .inr (l,false)/\l.length<=1048576)
  (by
   rintro⟨o,at_⟩ ⟨a,ha,hl,hb,ho⟩;simp only at ha hb ho;subst ha;simp only
   rcases DX a (L t).length with h0|h0
   ·rw[eQ t o a h0 (by omega) hr];split
    ·split
     ·refine .inl ⟨_,rfl,rfl,⟨a+2,rfl,by omega,by grind,λt ht=>AH _<|ho t ht⟩,by simp only;omega⟩
     grind
    split
    ·refine .inl ⟨_,rfl,rfl,⟨_,rfl,by assumption,by grind,λt ht=>AH _<|ho t ht⟩,by simp only;omega⟩
    grind
   rw[Ze t o a h0]
   grind) _ (b,(a:Int)) (Au _) ⟨a,rfl,ha,h,λt ht=>ht⟩
 grind
theorem yF (t:ByteArray) (hr:(L t).length<=1048576):∀(n a:Nat) (rem:ByteArray) (c:List Bh),(L t).length-a<=n->a<=(L t).length->L rem=(L t).drop a->c.length<=a->
  ∃ri rs,Ap (λq:ByteArray×List Bh=>DN q.1 q.2) (rem,c)=some ri/\Ap (λq:List Bh×Int=>BX t q.1 q.2) (c,(a:Int))=some rs/\
   ((∃l,ri= .inl l/\rs= .inl l/\l.length<=1048576)\/((ri= .inr ([],false)\/∃l,ri= .inl l/\l.length<=1048576/\∃x∈l,¬Rr x)/\((∃l,rs= .inr (l,false)/\l.length<=1048576)\/∃l,rs= .inl l/\l.length<=1048576/\∃x∈l,¬Rr x))):=by
 intro n
 induction n with
 |zero=>
  intro a rem c h1 h2 h3 h4;have ha:a=(L t).length:=by omega
  have f:(L rem).length=0:=by rw[h3,ha];simp
  refine⟨_,_,by rw[A0];simp only[Zf rem c f],by rw[A0];simp only[Ze t c a<|by omega],.inl ⟨c,rfl,rfl,by omega⟩⟩
 |succ n ih=>
  intro a rem c h1 h2 h3 h4
  rcases DX a (L t).length with h0|h0
  ·have o:(L rem).length=(L t).length-a:=by rw[h3];simp
   have h:0<(L rem).length:=by omega
   have i:(L rem)[0]=(L t)[a]:=by grind
   have j:(L rem)[1]?.getD 0=(L t)[a+1]?.getD 0:=by grind
   have d:=eS rem c h (by omega) (by omega);have b:=eQ t c a h0 (by omega) hr
   have g:∀k,L (rem.extract k (L rem).length)=(L t).drop (a+k):=λk=>by
    rw[IR,h3,CH,AM]
    grind
   rw[i,j]at d
   rcases O0 (L t)[a].toNat 128 with hc|hc|hc
   ·rw[Av<|by omega]at d;rw[Av<|by omega]at b;by_cases hk:a+1+(L t)[a].toNat<=(L t).length
    ·rw[Az<|by omega]at d;rw[Az hk]at b;obtain⟨ri,rs,q1,q2,q3⟩:=ih (a+1+(L t)[a].toNat) (rem.extract (1+(L t)[a].toNat) (L rem).length) (c++ [Bh.mk 0 0<|t.extract (a+1)<|a+1+(L t)[a].toNat]) (by omega) hk (by grind) (by grind);have etx:rem.extract 1 (1+(L t)[a].toNat)=t.extract (a+1) (a+1+(L t)[a].toNat):=by
      apply Lg;rw[IR,IR,h3,CH];simp
     refine⟨ri,rs,?_,?_,q3⟩
     ·rw[A0]
      grind
     rw[A0]
     grind
    rw[Av<|by omega]at d;rw[Av hk]at b;exact⟨_,_,by rw[A0];grind,by rw[A0];grind,.inr ⟨.inl rfl,.inl ⟨c,rfl,by omega⟩⟩⟩
   ·
    have hI:∃ri,Ap (λq:ByteArray×List Bh=>DN q.1 q.2) (rem,c)=some ri/\(ri= .inr ([],false)\/∃l,ri= .inl l/\l.length<=1048576/\∃x∈l,¬Rr x):=by
     by_cases hk:2<=(L rem).length
     ·rw[Az ⟨by omega,hk⟩]at d;obtain⟨r,q1,q2⟩:=yH (rem.extract 2 (L rem).length) (c++ [Bh.mk (((L t)[a+1]?.getD 0).toNat:Int) (((L t)[a].toNat:Int)-128)<|bs []]) (by grind);refine⟨r,by rw[A0];grind,?_⟩
      rcases q2 with⟨l,rfl,q3,q4⟩|rfl
      ·refine .inr ⟨l,rfl,q3,_,q4 _<|AT _<|AE.2 rfl,?_⟩;intro hk
       rcases hk with⟨_,_,k3,_⟩|⟨_,k2,_⟩
       ·simp only[EU,BU]at k3;omega
       grind
      exact .inl rfl
     rw[Av λe=>hk e.2,Av<|by omega]at d;exact⟨_,by rw[A0];grind,.inl rfl⟩
    have hS:∃rs,Ap (λq:List Bh×Int=>BX t q.1 q.2) (c,(a:Int))=some rs/\((∃l,rs= .inr (l,false)/\l.length<=1048576)\/∃l,rs= .inl l/\l.length<=1048576/\∃x∈l,¬Rr x):=by
     rw[Av<|by omega]at b;by_cases hk:a+1+(L t)[a].toNat<=(L t).length
     ·rw[Az hk]at b;obtain⟨r,q1,q2⟩:=yG t (c++ [Bh.mk 0 0<|t.extract (a+1)<|a+1+(L t)[a].toNat]) (a+1+(L t)[a].toNat) hk (by grind) hr;refine⟨r,by rw[A0];grind,?_⟩
      rcases q2 with⟨l,rfl,q3,q4⟩|⟨l,rfl,q3⟩
      ·refine .inr ⟨l,rfl,q3,_,q4 _<|AT _<|AE.2 rfl,?_⟩;intro m
       rcases m with⟨_,_,_,k4⟩|⟨k1,_⟩
       ·simp only[IR,AU,Cb]at k4;omega
       exact k1 rfl
      grind
     rw[Av hk]at b;exact⟨_,by rw[A0];grind,.inl ⟨c,rfl,by omega⟩⟩
    obtain⟨ri,q1,q2⟩:=hI;obtain⟨rs,q3,q4⟩:=hS;exact⟨ri,rs,q1,q3,.inr ⟨q2,q4⟩⟩
   rw[Az hc]at b;by_cases hk:a+2<=(L t).length
   ·rw[Az ⟨by omega,by omega⟩]at d;rw[Az hk]at b;obtain⟨ri,rs,q1,q2,q3⟩:=ih (a+2) (rem.extract 2 (L rem).length) (c++ [Bh.mk (((L t)[a+1]?.getD 0).toNat:Int) (((L t)[a].toNat:Int)-128)<|bs []]) (by omega) hk (g 2) (by grind);exact⟨ri,rs,by rw[A0];grind,by rw[A0];grind,q3⟩
   rw[Av (by omega),Av<|by omega]at d;rw[Av hk]at b;exact⟨_,_,by rw[A0];grind,by rw[A0];grind,.inr ⟨.inl rfl,.inl ⟨c,rfl,by omega⟩⟩⟩
  have ha:a=(L t).length:=by omega
  have f:(L rem).length=0:=by rw[h3,ha];simp
  refine⟨_,_,by rw[A0];simp only[Zf rem c f],by rw[A0];simp only[Ze t c a<|by omega],.inl ⟨c,rfl,rfl,by omega⟩⟩
theorem zR (t:ByteArray) (hr:(L t).length<=1048576):∃li oi ls os pi ki ps ks,Q7 t=some (li,oi)/\Ka t=some (ls,os)/\PO li=some (pi,ki)/\Gc ls=some (ps,ks)/\((oi=os/\pi=ps/\ki=ks)\/((oi=false\/ki=false)/\(os=false\/ks=false))):=by
 obtain⟨ri,rs,q1,q2,q3⟩:=yF t hr ((L t).length) 0 t [] (by omega) (by omega) (by simp) (by simp);have e0:(([]:List Bh),((0:Nat):Int))=([],0):=rfl;simp only[e0]at q2;unfold Q7 Ka;rw[q1,q2,lG];have none:∀l:List Bh,l.length<=1048576->(∃x∈l,¬Rr x)->∃p,Gc l=some (p,false):=by
  rintro l hl ⟨x,hx,hn⟩;obtain⟨p,ok,h1,h2⟩:=Rn l hl
  cases ok with
  |false=>exact⟨p,h1⟩
  |true=>grind
 rcases q3 with⟨l,rfl,rfl,hl⟩|⟨hi,hs⟩
 ·obtain⟨p,ok,h1,_⟩:=Rn l hl;exact⟨l,true,l,true,p,ok,p,ok,rfl,rfl,h1,h1,.inl ⟨rfl,rfl,rfl⟩⟩
 have hI:∃li oi pi ki,(some ri).bind (Sum.elim (λv1=>some (v1,true)) some)=some (li,oi)/\Gc li=some (pi,ki)/\(oi=false\/ki=false):=by
  rcases hi with rfl|⟨l,rfl,hl,hb⟩
  ·obtain⟨p,ok,h1,_⟩:=Rn [] (by simp)
   grind
  obtain⟨p,h1⟩:=none l hl hb;simp_all
 have hS:∃li oi pi ki,(some rs).bind (Sum.elim (λv1=>some (v1,true)) some)=some (li,oi)/\Gc li=some (pi,ki)/\(oi=false\/ki=false):=by
  rcases hs with⟨l,rfl,hl⟩|⟨l,rfl,hl,hb⟩
  ·obtain⟨p,ok,h1,_⟩:=Rn l hl
   grind
  grind
 obtain⟨li,oi,pi,ki,a1,a2,a3⟩:=hI;obtain⟨ls,os,ps,ks,b1,b2,b3⟩:=hS;exact⟨li,oi,ls,os,pi,ki,ps,ks,a1,b1,a2,b2,.inr ⟨a3,b3⟩⟩
theorem TZ (t:ByteArray) (hr:(L t).length<=1048576):∃u ok,Gr t=some (u,ok)/\Nx t=some (u,ok)/\(ok=false->u=bs [])/\(ok=true->(L u).length<=64):=by
 unfold Gr Nx;rw[B8,Rt,EU];by_cases h0:L t=[]
 ·simp_all
 have a:0<(L t).length:=by grind
 have e1:(((L t).length:Int)==0)=false:=by simp;exact h0
 rw[e1,Af h0,Ac,Ac];have s1:sub t 1 ((L t).length:Int)=some (t.extract 1 (L t).length):=FM t (i:=1) (by omega)<|Au _;have s0:sx t 0=some ((L t)[0].toNat:Int):=Fk t (i:=0) a;rw[s1,s0];simp only[Aa];generalize hx:t.extract 1 (L t).length=x;have b:(L x).length<=1048576:=by rw[<-hx,IR];simp;omega
 obtain⟨li,oi,ls,os,pi,ki,ps,ks,a1,a2,a3,a4,a5⟩:=zR x b;rw[a1,a2];simp only[Aa];rw[a3,a4];simp only[Aa];have back:∀j:ByteArray,∃u ok,((EY j).bind λv3=>(cond (!v3.2) (some true) (some<|!(seq v3.1 t)):Option Bool).bind λj2=>cond j2 (some (bs [],false)) (some (j,true)):Option (ByteArray×Bool))=some (u,ok)/\
   ((LM j).bind λv3=>(cond (!v3.2) (some true) (some<|!(seq v3.1 t)):Option Bool).bind λj2=>cond j2 (some (bs [],false)) (some (j,true)):Option (ByteArray×Bool))=some (u,ok)/\(ok=false->u=bs [])/\(ok=true->(L u).length<=64/\((L t)[0].toNat=122\/(L t)[0].toNat=114)):=by
  intro j;obtain⟨z,ok,p1,p2,p3,p4⟩:=Ye j;rw[p1,p2];simp only[Aa]
  cases ok with
  |false=>simp
  |true=>
   simp only[Ah,Ac,Aa]
   cases hz:seq z t with
   |false=>simp
   |true=>
    have c:z=t:=by rw[Jq,A6]at hz;exact hz
    obtain⟨p5,p6⟩:=p4 rfl;refine⟨_,true,rfl,rfl,by simp,λ_=>⟨p5,?_⟩⟩;rw[c,Ab a]at p6
    rcases p6 with p6|p6
    ·simp_all
    simp_all
 by_cases h122:(L t)[0].toNat=122
 ·have c1:((((L t)[0].toNat:Nat):Int)==122)=true:=by simp[h122]
  have c2:((((L t)[0].toNat:Nat):Int) !=114)=true:=by simp[h122]
  rw[c1,c2];simp only[Ae]
  rcases a5 with⟨rfl,rfl,rfl⟩|⟨hi,hs⟩
  ·cases oi with
   |false=>simp
   |true=>
    cases ki with
    |false=>simp
    |true=>simp_all
  grind
 have c1:((((L t)[0].toNat:Nat):Int)==122)=false:=by simp;omega
 rw[c1];simp only[Ac,Aa,Bw];by_cases h114:(L t)[0].toNat=114
 ·simp_all
 have c2:((((L t)[0].toNat:Nat):Int) !=114)=true:=by simp;omega
 rw[c2];simp only[Ae];have nope:∀(j u:ByteArray) (ok:Bool),(ok=true->(L u).length<=64/\((L t)[0].toNat=122\/(L t)[0].toNat=114))->ok=false:=by grind
 obtain⟨u,ok,b1,b2,b3,b4⟩:=back x;have k1:=nope x u ok b4;subst k1;have k2:=b3 rfl;subst k2;refine⟨bs [],false,b1,?_,by simp,by simp⟩
 cases oi with
 |false=>rfl
 |true=>
  cases ki with
  |false=>rfl
  |true=>
   simp only[Ah,Ac,Aa,Bw];obtain⟨u,ok,d1,d2,d3,d4⟩:=back pi
   grind
end Go.TI
