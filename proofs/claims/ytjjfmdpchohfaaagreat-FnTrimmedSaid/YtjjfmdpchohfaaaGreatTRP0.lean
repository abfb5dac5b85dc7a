/- What is trimmed reads empty, and nothing else does. No condition; no program is in sight. -/
import Derived.Test.YtjjfmdpchohfaaaGreatTRD
set_option linter.unusedVariables false
set_option linter.unusedSimpArgs false
namespace Go.TI
open Go
def u32 (s:Int):Prop:=0<=s/\s<4294967296
theorem r9 (s:Int) (hs:u32 s):∃v,Ao (λs:Int×Int=>IH s.1 s.2) (s,0)=some v/\Ao (λs:Int×Int=>IR s.1 s.2) (s,0)=some v/\u32 v:=
 Iq (body:=λs:Int×Int=>IH s.1 s.2) (body':=λs:Int×Int=>IR s.1 s.2) (λ(s:Int) i=>(s,i)) 8 (λ_ s=>u32 s) u32
  (λs i hi hs=>by
   simp only[IH,IR];rw[Ad (by omega:(i:Int)<8),Ae,Ae,an1 hs.1 hs.2,<-ADI hs.1 hs.2];refine⟨rfl,.inl ?_⟩;have hw:u32 (IntKind.u32.wrap<|Int.tdiv s 2):=by rw[IntKind.wrap_u32];constructor<;>omega
   cases Int.tmod s 2==1
   ·exact⟨_,by rw[Ac,ad1],hw⟩
   exact⟨_,by rw[Ae,ad1],ACi _ _⟩)
  (λs hs=>by
   simp only[IH,IR]
   grind) (s:=s) hs
theorem r8 (s:Int) (t:ByteArray) (hs:u32 s) (ht:(L t).length<=9223372036854775806):∃v,SF s t=some v/\SQ s t=some v/\u32 v:=by
 obtain⟨v,h1,h2,h3⟩:=Iq (body:=λs:Int×Int=>Kq t s.1 s.2) (body':=λs:Int×Int=>KD t s.1 s.2) (λ(s:Int) i=>(s,i)) (L t).length (λ_ s=>u32 s) u32
  (λs i hi hs=>by
   obtain⟨v,h1,h2,h3⟩:=r9 (xr s<|IntKind.u32.wrap ((L t)[i]).toNat)<|ACi _ _;simp only[Kq,KD];rw[Ad (by rw[Bz];omega:(i:Int)<FQ t),Ae,Ae,Fg t hi,Aa,Aa,h1,h2]
   exact⟨rfl,.inl ⟨v,by rw[Aa,ad1],h3⟩⟩)
  (λs hs=>by
   simp only[Kq,KD];rw[Ah (by rw[Bz];omega:¬((L t).length:Int)<FQ t),Ac,Ac]
   grind) (s:=s) hs
 unfold SF SQ
 grind
theorem oZ (t:ByteArray) (ht:(L t).length<=9223372036854775806):∃v,O4 t=some v/\Yn t=some v/\u32 v:=by
 obtain⟨v,h1,h2,h3⟩:=r8 4294967295 t ⟨by omega,by omega⟩ ht;unfold O4 Yn
 grind
def four (v:Int):ByteArray:=Fi [IntKind.u8.wrap<|Int.fdiv v<|2^(min (24:Int).toNat IntKind.u32.bits),IntKind.u8.wrap<|Int.fdiv v<|2^(min (16:Int).toNat IntKind.u32.bits),IntKind.u8.wrap<|Int.fdiv v<|2^(min (8:Int).toNat IntKind.u32.bits),IntKind.u8.wrap v]
theorem VG (v:Int):(L (four v)).length=4:=by rfl
theorem gB (t:ByteArray):Iz t=Kt t:=by
 unfold Iz Kt;by_cases h:(FQ t)>20000
 ·grind
 rw[Ah h,Ac,Ac];rw[Bz]at h;obtain⟨v,h1,h2,_⟩:=oZ t (by omega);rw[h1,h2];rfl
theorem Tl (t:ByteArray):(20000<(L t).length->Kt t=some (bs [],false))/\((L t).length<=20000->∃v,O4 t=some v/\Kt t=some (t++four v,true)):=by
 unfold Kt;rw[Bz];refine⟨λh=>by rw[cT],λh=>?_⟩;obtain⟨v,h1,h2,_⟩:=oZ t (by omega);rw[cF,h1];refine⟨v,rfl,?_⟩;have:Lp v=some (four v):=rfl;rw[Aa,this,Aa,FR _ _ (by rw[VG];omega),Aa]
theorem oW (t:ByteArray) (ht:(L t).length<=9223372036854775806):∃u ok,Lr t=some (u,ok)/\Q7 t=some (u,ok)/\(ok=true->(L u).length<=20000/\∃v,O4 u=some v/\t=u++four v)/\(ok=false->u=bs []):=by
 unfold Lr Q7;have e4:sb (FQ t) 4=((L t).length:Int)-4:=by rw[Bz,Ch]
 rw[e4];by_cases h4:(L t).length<4
 ·rw[Ad (by omega:((L t).length:Int)-4<0),Ad (by rw[Bz];omega:FQ t<4)]
  grind
 rw[Ah (by omega:¬((L t).length:Int)-4<0),Ah (by rw[Bz];omega:¬FQ t<4)];simp only[Ac];have en:((L t).length:Int)-4=(((L t).length-4:Nat):Int):=by omega
 rw[en,Bz];have b:sub t 0 (((L t).length-4:Nat):Int)=some (t.extract 0<|(L t).length-4):=FK t (i:=0) (by omega) (by omega);have a:sub t (((L t).length-4:Nat):Int) ((L t).length:Int)=some (t.extract ((L t).length-4) (L t).length):=FK t (by omega) (by omega);rw[b,a];simp only[Aa];have hu:(L<|t.extract 0<|(L t).length-4).length=(L t).length-4:=by rw[IB];simp
 obtain⟨k1,k2⟩:=Tl<|t.extract 0<|(L t).length-4;rw[gB];by_cases hb:20000<(L t).length-4
 ·grind
 obtain⟨v,h1,h2⟩:=k2 (by omega);rw[Ah (by omega:¬(((L t).length-4:Nat):Int)>20000),h1,h2];have h3:Lp v=some (four v):=rfl;simp only[Ac,Aa,h3,Ag];have c:seq (t.extract ((L t).length-4) (L t).length) (four v)=seq (t.extract 0 ((L t).length-4)++four v) t:=by
  rw[Rm,Rm,DL,IB,IB,El,A3,A3];have e1:List.take ((L t).length-((L t).length-4)) (List.drop ((L t).length-4)<|L t)=(L t).drop ((L t).length-4):=AH (by simp);have e2:List.take ((L t).length-4-0) (List.drop 0<|L t)=(L t).take ((L t).length-4):=by simp
  rw[e1,e2];constructor
  ·intro h;rw[<-h,C7]
  grind
 rw[c]
 cases hs:seq (t.extract 0 ((L t).length-4)++four v) t with
 |false=>grind
 |true=>
  rw[JD,A3]at hs
  grind
theorem IL (n:Nat) (h:n<=1099511627776):∃s,Hw (n:Int)=some s/\L s=Co n:=by
 unfold Hw;obtain⟨m,o,h1,h2,h3,h4⟩:=fU (body:=λs:Int×List Int=>O3 s.1 s.2) (λ_ _=>rfl) n [] (by simpa using h);rw[h1,Aa];have:IntKind.u8.wrap (m:Int)=m:=by rw[IntKind.wrap_u8];omega
 rw[this,BC (by grind),Aa];refine⟨_,rfl,?_⟩;rw[LM,h4];simp
def ACo (t:ByteArray) (at_:Int) (r:Int×Int×Bool):Prop:=(r.2.2=false/\r.1=0/\r.2.1=0)\/(r.2.2=true/\∃(a b n:Nat),at_=a/\r.2.1=b/\r.1=n/\a<b/\b<=(L t).length/\n<=1000000000/\Co n=((L t).drop a).take (b-a))
theorem YG (l:List UInt8) (a k:Nat) (h:a+k<l.length):(l.drop a).take (k+1)=(l.drop a).take k++ [l[a+k]]:=by
 rw[An (by simp;omega),UE]
theorem iR (k:Nat) (h:k<5):(128:Nat)^k<=268435456:=by
 have:k<=4:=by omega
 calc 128^k<=128^4:=Nat.pow_le_pow_right (by omega) this
  _=268435456:=by decide
theorem XX:∀ds:List UInt8,Fv ds<128^ds.length
 |[]=>by simp[Fv]
 |d::ds=>by
  have:=XX ds;simp only[Fv,A8,sG];omega
theorem ABf (x k:Nat) (hx:x<128) (hk:k<5):shl .i64 (x:Int) (ml 7 (k:Int))=some ((x*128^k:Nat):Int):=by
 have h7:ml 7 (k:Int)=((7*k:Nat):Int):=by rw[P4 (by omega)<|by omega];omega
 unfold shl;rw[h7,AA<|by omega];have e:(2:Int)^(min ((7*k:Nat):Int).toNat IntKind.i64.bits)=((128^k:Nat):Int):=by
  have hb:IntKind.i64.bits=64:=rfl;have h128:(128:Nat)^k=2^(7*k):=by rw[Nat.pow_mul]
  grind
 rw[e];have hp:=iR k hk;have hm:x*128^k<=128*268435456:=dI (by omega) hp;have ec:(x:Int)*((128^k:Nat):Int)=((x*128^k:Nat):Int):=by norm_cast
 rw[ec,Pm (by omega)<|by omega]
theorem gL (x:Nat):Int.tmod (x:Int) 128=((x %128:Nat):Int):=rfl
theorem I8 (t:ByteArray) (at_:Int) (ht:(L t).length<=4611686018427387904) (o:oI at_):∃r,JS t at_=some r/\JZ t at_=some r/\ACo t at_ r:=by
 have fails:∀(at_:Int),(at_<0\/((L t).length:Int)<=at_)->oI at_->JZ t at_=some (0,0,false):=by
  intro at_ h o;unfold JZ;rw[Aw];simp only[Hs];rw[cT];by_cases h0:at_>=0
  ·rw[Ad h0,Ae,Bz,Ch,Ah<|by omega];rfl
  grind
 by_cases h4:0<=at_/\at_<(L t).length
 ·obtain⟨a,rfl⟩:=Cp h4.1;have ha:a<(L t).length:=by omega
  have h5:∀(B1:Int×Int×Int->Option ((Int×Int×Int)⊕Unit⊕(Int×Int×Bool))) (B2:Int×Int->Option ((Int×Int)⊕Unit⊕(Int×Int×Bool))),(∀n sc i,B1 (n,sc,i)=DC t (a:Int) n sc i)->(∀n k,B2 (n,k)=Hs t (a:Int) n k)->∀(m k:Nat),k+m=5->a+k<=(L t).length->(∀d∈((L t).drop a).take k,128<=d.toNat)->
    ∃r,(Ao B1 (((Fv (((L t).drop a).take k):Nat):Int),((128^k:Nat):Int),((a+k:Nat):Int))=some r/\Ao B2 (((Fv (((L t).drop a).take k):Nat):Int),(k:Int))=some r)/\(r= .inl ()\/∃q,r= .inr q/\ACo t (a:Int) q):=by
   intro B1 B2 p u m
   induction m with
   |zero=>
    intro k hk h6 hd;have f:k=5:=by omega
    subst f;refine⟨.inl (),⟨?_,?_⟩,.inl rfl⟩
    ·rw[Aw];simp only[p,DC];rw[Cs,Ah (by omega:¬((a+5:Nat):Int)<(a:Int)+5)]
     grind
    rw[Aw];simp only[u,Hs];rfl
   |succ m ih=>
    intro k hk h6 hd;rw[Aw,Aw B2];simp only[p,u,DC,Hs];have f:k<5:=by omega
    rw[Cs (b:=5) (by omega) (by omega),Ad (by omega:((a+k:Nat):Int)<(a:Int)+5),Ad (by omega:(k:Int)<5),Ad (by omega:(a:Int)>=0),Bz,Ch];by_cases v:a+k<(L t).length
    ·rw[Ad (by omega:((a+k:Nat):Int)<((L t).length:Int)),Ad (by omega:(a:Int)<((L t).length:Int)-k)];have eak:ad (a:Int) (k:Int)=((a+k:Nat):Int):=by rw[Cs];omega
     simp only[Ae,Aa,Fg t v,eak];have hx:=lF<|(L t)[a+k];have j:=YG (L t) a k v;have w:(((L t).drop a).take k).length=k:=by simp;omega
     have g:=Ox (((L t).drop a).take k) [(L t)[a+k]];rw[<-j,w]at g;have h7:=XX<|((L t).drop a).take k;rw[w]at h7;have hp:=iR k f;generalize a4:(L t)[a+k]=x at hx j g;simp only[Fv,Nat.mul_zero,Ot]at g;have hw:IntKind.i64.wrap (x.toNat:Int)=x.toNat:=Pm (by omega) (by omega);have a2:x.toNat %128*128^k<=127*268435456:=dI (by omega) hp;have emul:ml ((x.toNat %128:Nat):Int) ((128^k:Nat):Int)=((x.toNat %128*128^k:Nat):Int):=by
      have ec:((x.toNat %128:Nat):Int)*((128^k:Nat):Int)=((x.toNat %128*128^k:Nat):Int):=by norm_cast
      rw[P4 (by rw[ec];omega) (by rw[ec];omega),ec]
     have enew:ad (((Fv (((L t).drop a).take k):Nat)):Int) ((x.toNat %128*128^k:Nat):Int)=((Fv (((L t).drop a).take<|k+1):Nat):Int):=by
      rw[Cs,g,Nat.mul_comm<|128^k];omega
     rw[hw,gL,ABf _ k (by omega) f];simp only[Aa,emul,enew];by_cases l:x.toNat<128
     ·rw[Ad (by omega:(x.toNat:Int)<128),Ah (by omega:¬(x.toNat:Int)>=128)];simp only[Ae,Ac];have ek1:ad ((a+k:Nat):Int) 1=((a+k+1:Nat):Int):=ad1 (by omega);have c:=fT (((L t).drop a).take k) x hd l;rw[<-j]at c;have h8:(((L t).drop a).take k≠ [])↔0<k:=by grind
      rw[h8]at c;have y:sub t (a:Int) ((a+k+1:Nat):Int)=some (t.extract a<|a+k+1):=FK t (by omega) (by omega);rw[ek1,y];by_cases a3:Fv (((L t).drop a).take<|k+1)>1000000000
      ·rw[Ad (by omega:((Fv (((L t).drop a).take<|k+1):Nat):Int)>1000000000)];refine⟨.inr (0,0,false),⟨rfl,?_⟩,.inr ⟨_,rfl,.inl ⟨rfl,rfl,rfl⟩⟩⟩
       grind
      rw[Ah (by omega:¬((Fv (((L t).drop a).take<|k+1):Nat):Int)>1000000000)];obtain⟨s,h9,a0⟩:=IL (Fv<|((L t).drop a).take<|k+1) (by omega);simp only[Ac,Aa,h9];have z:seq s (t.extract a<|a+k+1)=decide (¬(x.toNat=0/\0<k)):=by
       rw[Rm,a0,IB,show a+k+1-a=k+1 by omega,El,A3,A3];exact c
      rw[z];by_cases hz:x.toNat=0/\0<k
      ·rw[Ah λe=>e hz];refine⟨.inr (0,0,false),⟨rfl,?_⟩,.inr ⟨_,rfl,.inl ⟨rfl,rfl,rfl⟩⟩⟩
       grind
      rw[Ad hz];refine⟨.inr (((Fv (((L t).drop a).take<|k+1):Nat):Int),((a+k+1:Nat):Int),true),⟨rfl,?_⟩,.inr ⟨_,rfl,.inr ⟨rfl,a,a+k+1,_,rfl,rfl,rfl,by omega,by omega,by omega,?_⟩⟩⟩
      ·by_cases a1:x.toNat=0
       ·have:((x.toNat:Int)==0)=true:=by rw[a1];rfl
        rw[this,Ah (by omega:¬(k:Int)>0)];rfl
       grind
      rw[show a+k+1-a=k+1 by omega];exact c.2 hz
     rw[Ah (by omega:¬(x.toNat:Int)<128),Ad (by omega:(x.toNat:Int)>=128)];simp only[Ae,Ac];have e1:ml ((128^k:Nat):Int) 128=((128^(k+1):Nat):Int):=by
      rw[P4 (by omega) (by omega),sG];norm_cast
     have e2:ad ((a+k:Nat):Int) 1=((a+(k+1):Nat):Int):=ad1 (by omega);have e3:ad (k:Int) 1=((k+1:Nat):Int):=ad1 (by omega);rw[e1,e2,e3];exact ih (k+1) (by omega) (by omega)<|by grind
    rw[Ah (by omega:¬((a+k:Nat):Int)<((L t).length:Int)),Ah (by omega:¬(a:Int)<((L t).length:Int)-k)];simp
  obtain⟨r,⟨h1,h2⟩,h3⟩:=h5 (λs=>DC t (a:Int) s.1 s.2.1 s.2.2) (λs=>Hs t (a:Int) s.1 s.2) (λ_ _ _=>rfl) (λ_ _=>rfl) 5 0 rfl (by omega) (by simp);unfold JS JZ;have hw:BH (a:Int) 0 (FQ t)=some true:=by
   unfold BH;rw[cT,Bz,Ad<|by omega]
  rw[hw];simp only[Aa,Ag,Ac];simp only[KY,Fv,Nat.pow_zero,Ot]at h1 h2;rw[show((0:Nat):Int)=0 from rfl,show((1:Nat):Int)=1 from rfl]at h1;rw[show((0:Nat):Int)=0 from rfl]at h2;rw[h1,h2]
  rcases h3 with rfl|⟨q,rfl,h3⟩
  ·exact⟨_,rfl,rfl,.inl ⟨rfl,rfl,rfl⟩⟩
  grind
 have hf:=fails at_ (by omega) o;refine⟨(0,0,false),?_,hf,.inl ⟨rfl,rfl,rfl⟩⟩;unfold JS;by_cases h0:0<=at_/\at_<=(L t).length
 ·have hw:BH at_ 0 (FQ t)=some true:=by
   unfold BH;rw[cT,Bz,Ad<|by omega]
  rw[hw];simp only[Aa,Ag,Ac];rw[Aw];simp only[DC];rw[Ah (by rw[Bz];omega:¬at_<FQ t)];rfl
 have hw:BH at_ 0 (FQ t)=some false:=by
  unfold BH;by_cases h1:at_>=0
  ·rw[Ad h1,Ae,Bz,Ah<|by omega]
  grind
 rw[hw];rfl
theorem aD:GQ=BH:=rfl
variable {r n x:Int} {R:List Int} {i j k:Nat} {s:Store} {α γ:Type} {v:Vol} {p:Nat->Bool} {l:List α}
theorem CM {i:Int} {x:α} (h:gi l i=some x):0<=i/\l[i.toNat]?=some x:=by
 unfold gi at h
 grind
theorem QQ:N7=Ga:=by
 have h2:Ns=E7:=by
  funext x y;unfold Ns E7
  cases decide (y<ln x.Leaves)with
  |false=>rfl
  |true=>
   simp only[Ae]
   cases gi x.Leaves y with
   |none=>rfl
   |some z=>rfl
 funext f;unfold N7 Ga;have:Nt f=E8 f:=by
  funext i;unfold Nt E8;rw[h2];rfl
 rw[this];rfl
def JI (f:Flash):Prop:=f.Blocks.length<=1048576/\∀b∈f.Blocks,b.Leaves.length<=1048576
theorem Ro (x a b:Int):BH x a b=some (decide (a<=x)&&decide (x<=b)):=by
 unfold BH
 grind
theorem ABE (x:Leaf):∃v,N1 x=some v:=by
 unfold N1;cases x.Is==0
 ·simp only[Ac];cases x.Is==1
  ·simp only[Ac];cases x.Is==2<;>exact⟨_,rfl⟩
  simp only[Ae,Ro,Aa];exact⟨_,rfl⟩
 exact⟨_,rfl⟩
theorem U7 (f:Flash) (h:JI f):∃v,Ga f=some v/\(v=true->f.Blocks.length<=10/\∀b∈f.Blocks,b.Leaves.length=4):=by
 have a:=AJ (body:=λs:Int=>E8 f s) (λ(_:Unit) i=>i) f.Blocks.length (λi _=>∀j b,j<i->f.Blocks[j]?=some b->b.Leaves.length=4) (λr=>r= .inr false\/r= .inl ()/\∀b∈f.Blocks,b.Leaves.length=4)
  (λs i hi hs=>by
   obtain⟨x,hx⟩:∃x,f.Blocks[i]?=some x:=⟨_,Ab hi⟩;have hM:=h.1;have hL:=h.2 x<|Au hx;simp only[E8,Eh hi,Ar,hx,Aa,Ro];by_cases h4:x.Leaves.length=4
   ·have e1:(ln x.Leaves !=4)=false:=by simp[ln,h4]
    simp only[e1,Ac,Aa]
    cases hw:(decide (0<=x.Wear)&&decide (x.Wear<=1000000000))with
    |false=>grind
    |true=>
     simp only[Ag,Ac];obtain⟨r,h5,h6⟩:=AJ (body:=λs:Int=>E7 x s) (λ(_:Unit) i=>i) x.Leaves.length (λ_ _=>True) (λr=>r= .inl ()\/r= .inr (.inr<|.inr false))
      (λs k hk _=>by
       obtain⟨y,hy⟩:∃y,x.Leaves[k]?=some y:=⟨_,Ab hk⟩;obtain⟨v,hv⟩:=ABE y;simp only[E7,Eh hk,Ar,hy,Aa,hv];have fin:∀j:Bool,(∃s':Unit,(bif j then some (.inr<|.inr<|.inr<|.inr false)else some (.inl<|ad (k:Int) 1):Option (Int⊕Unit⊕Int⊕Unit⊕Bool))=some (.inl (((k+1:Nat)):Int))/\True)\/∃b,(bif j then some (.inr<|.inr<|.inr<|.inr false)else some (.inl<|ad (k:Int) 1):Option (Int⊕Unit⊕Int⊕Unit⊕Bool))=some (.inr b)/\(b= .inl ()\/b= .inr (.inr<|.inr false)):=by
        intro j
        cases j with
        |true=>grind
        |false=>exact .inl ⟨(),by rw[Ac,ad1],trivial⟩
       cases v with
       |false=>exact fin true
       |true=>
        simp only[Ag,Ac];by_cases c:0<k
        ·rw[cT,Ch,KM (by omega) (by omega),Aa];cases(x.Leaves[((k:Int)-1).toNat]'(by omega)).Is==0
         ·exact fin false
         exact fin<|y.Is !=0
        rw[Ah (by omega:¬(k:Int)>0)]
        exact fin false)
      (λs _=>⟨_,by simp only[E7,DN],.inl rfl⟩) (s:=()) trivial
     rw[h5,Aa]
     rcases h6 with rfl|rfl
     ·refine .inl ⟨(),by rw[Bv,ad1],?_⟩
      grind
     grind
   have e1:(ln x.Leaves !=4)=true:=by simp[ln];omega
   grind)
  (λs hs=>⟨_,by simp only[E8,DN],.inr ⟨rfl,λb hb=>by
   obtain⟨j,hj,e⟩:=A6 hb
   exact hs j b hj<|by grind⟩⟩) (s:=()) (λj b hj=>absurd hj<|by omega)
 obtain⟨r,h1,h2⟩:=a;unfold Ga;rw[h1,Aa]
 rcases h2 with rfl|⟨rfl,h2⟩
 ·simp
 simp only[Bv,Ro,Aa];refine⟨_,rfl,λe=>⟨?_,h2⟩⟩;rw[Ai,A3,A3,Bq]at e;omega
theorem Tm (p:Page):∃v,Kw p=some v/\Sn p=some v/\(v=true->(p.Kind=1\/p.Kind=2)/\(1<=p.Seq/\p.Seq<=1000000000)/\(1<=p.Tx/\p.Tx<=1000000000)/\(1<=p.Count/\p.Count<=9)/\(0<=p.Part/\p.Part<p.Count)/\FQ p.Text<=90):=by
 unfold Kw Sn;rw[aD];simp only[Ro,Aa];by_cases h1:1<=p.Seq/\p.Seq<=1000000000
 ·by_cases h2:1<=p.Tx/\p.Tx<=1000000000
  ·by_cases h3:1<=p.Count/\p.Count<=9
   ·have e:sb p.Count 1=p.Count-1:=Ch (by omega) (by omega);rw[e];by_cases h4:0<=p.Part/\p.Part<=p.Count-1
    ·by_cases h5:FQ p.Text>90
     ·refine⟨false,?_,?_,by simp⟩
      ·grind
      grind
     by_cases k2:p.Kind=2
     ·exact⟨true,by grind,by grind,λ_=>⟨.inr k2,h1,h2,h3,⟨h4.1,by omega⟩,by omega⟩⟩
     by_cases k1:p.Kind=1
     ·exact⟨p.Count==1,by grind,by grind,λ_=>⟨.inl k1,h1,h2,h3,⟨h4.1,by omega⟩,by omega⟩⟩
     have hk:(decide (1<=p.Kind)&&decide (p.Kind<=2))=false:=by grind
     have e1:(p.Kind==1)=false:=by simpa using k1
     have e2:(p.Kind==2)=false:=by simpa using k2
     exact⟨false,by simp[hk],by grind,by simp⟩
    have e4:(decide (0<=p.Part)&&decide (p.Part<=p.Count-1))=false:=by grind
    refine⟨false,?_,?_,by simp⟩
    ·grind
    grind
   have e3:(decide (1<=p.Count)&&decide (p.Count<=9))=false:=by grind
   refine⟨false,?_,?_,by simp⟩
   ·grind
   simp[h1,h2,e3]
  have e2:(decide (1<=p.Tx)&&decide (p.Tx<=1000000000))=false:=by grind
  refine⟨false,?_,?_,by simp⟩
  ·grind
  simp[h1,e2]
 have e1:(decide (1<=p.Seq)&&decide (p.Seq<=1000000000))=false:=by grind
 refine⟨false,?_,?_,by simp⟩
 ·grind
 simp[e1]
def eZ:Page:=Page.mk 0 0 0 0 0<|bs []
theorem Hp (u:ByteArray) (a:Int) (hu:(L u).length<=20000) (ha:oI a):Di (Ev.mk u a true)=some (0,Ev.mk u a true):=by
 obtain⟨r,h1,_,_⟩:=I8 u a (by omega) ha;unfold Di
 grind
theorem JX {r:Int×Int×Bool} (u:ByteArray) (a:Int) (hu:(L u).length<=20000) (h:JS u a=some r):Di (Ev.mk u a false)=some (cond r.2.2 (r.1,Ev.mk u r.2.1 false) (0,Ev.mk u a true)):=by
 unfold Di
 grind
theorem QW {a b:Nat} (l:List UInt8) (h:a<=b):l.drop a=(l.drop a).take (b-a)++l.drop b:=by
 have:=(C7 (b-a)<|l.drop a).symm;rw[C4,show a+(b-a)=b by omega]at this;exact this
theorem XD (p:Page) (u:ByteArray) (k:UInt8) (n1 n2 n3 n4:Nat) (hp:Kw p=some true) (hk:p.Kind=(k.toNat:Int)) (h1:p.Seq=n1) (h2:p.Tx=n2) (h3:p.Part=n3) (h4:p.Count=n4) (b1:n1<=1000000000) (b2:n2<=1000000000) (b3:n3<=1000000000) (b4:n4<=1000000000) (hu:(L u).length<=20000) (e:L u=[k]++Co n1++Co n2++Co n3++Co n4++L p.Text):Eu p=Kt u:=by
 obtain⟨s1,q1,r1⟩:=IL n1 (by omega);obtain⟨s2,q2,r2⟩:=IL n2 (by omega);obtain⟨s3,q3,r3⟩:=IL n3 (by omega);obtain⟨s4,q4,r4⟩:=IL n4 (by omega);have hl:=BQ List.length e;simp only[Ak,Bf]at hl;have hb:JN p.Kind=some (Fi [IntKind.u8.wrap p.Kind]):=rfl;have a:L (Fi [IntKind.u8.wrap p.Kind])=[k]:=by
  rw[LM,hk,IntKind.wrap_u8];have:=lF k;have e2:((k.toNat:Int) %256).toNat=k.toNat:=by omega
  simp only[Cx,List.map_nil,e2,UInt8.ofNat_toNat]
 unfold Eu;rw[hp];simp only[Aa,Ag,Ac,hb,h1,h2,h3,h4,q1,q2,q3,q4];rw[FR _ _ (by grind),Aa,FR _ _ (by rw[DL,a,r1,r2];grind),Aa,FR _ _ (by rw[DL,DL,a,r1,r2,r3];grind),Aa,FR _ _ (by rw[DL,DL,DL,a,r1,r2,r3,r4];grind),Aa,FR _ _ (by rw[DL,DL,DL,DL,a,r1,r2,r3,r4];grind),Aa];have:Fi [IntKind.u8.wrap p.Kind]++s1++s2++s3++s4++p.Text=u:=by
  apply KU;rw[DL,DL,DL,DL,DL,a,r1,r2,r3,r4,e]
 rw[this]
 cases Kt u with
 |none=>rfl
 |some v=>rfl
theorem I9 (t:ByteArray) (ht:(L t).length<=9223372036854775806):∃p ok,F8 t=some (p,ok)/\QD t=some (p,ok)/\(ok=false->p=eZ)/\(ok=true->Kw p=some true):=by
 obtain⟨u,uok,j,k,m,n⟩:=oW t ht;unfold F8 QD;rw[j,k];simp only[Aa];have o1:oI 1:=⟨by omega,by omega⟩
 cases uok with
 |false=>
  have:=n rfl;subst this;have hz:(L<|bs []).length<=20000:=by rw[EO];simp
  simp only[AM,Ae,Aa,Hp _ _ hz o1];exact⟨eZ,false,rfl,rfl,λ_=>rfl,by simp⟩
 |true=>
  obtain⟨e,v,hv,o⟩:=m rfl;simp only[Ag,Ac,Aa];by_cases he:(L u).length<1
  ·have g:seq u (bs [])=true:=by
    rw[Rm,A3,EO]
    grind
   rw[Ad (by rw[Bz];omega:FQ u<1),g];simp only[Ae,Hp _ _ e o1,Aa];exact⟨eZ,false,rfl,rfl,λ_=>rfl,by simp⟩
  have g:seq u (bs [])=false:=by
   rw[Rm,Gi,EO]
   grind
  rw[Ah (by rw[Bz];omega:¬FQ u<1),g];simp only[Ac];have four_:∀(B:Int×Int×Int×Int×Int×Int->Option ((Int×Int×Int×Int×Int×Int)⊕(Int×Int×Int×Int×Int)⊕(Page×Bool))),(∀x y a b c d,B (x,y,a,b,c,d)=EF (u,true) x y a b c d)->
    ∃(a:Int) (m1 m2 m3 m4:Int) (bad:Bool),(∃c1 c2 c3,Di (Ev.mk u 1 false)=some (m1,c1)/\Di c1=some (m2,c2)/\Di c2=some (m3,c3)/\Di c3=some (m4,Ev.mk u a bad))/\
     Ao B (1,0,0,0,0,0)=some (bif bad then .inr (eZ,false)else .inl (a,m1,m2,m3,m4))/\(bad=false->∃(a1 a2 a3 a4 n1 n2 n3 n4:Nat),m1=n1/\m2=n2/\m3=n3/\m4=n4/\a=a4/\1<a1/\a1<a2/\a2<a3/\a3<a4/\a4<=(L u).length/\n1<=1000000000/\n2<=1000000000/\n3<=1000000000/\n4<=1000000000/\
      Co n1=((L u).drop 1).take (a1-1)/\Co n2=((L u).drop a1).take (a2-a1)/\Co n3=((L u).drop a2).take (a3-a2)/\Co n4=((L u).drop a3).take (a4-a3)):=by
   intro B hB;obtain⟨r1,p1,q1,w1⟩:=I8 u 1 (by omega) o1;have g1:=JX u 1 e p1;rw[Aw,hB];unfold EF;rw[cT,q1,Aa]
   rcases w1 with⟨w1,w2,w3⟩|⟨w1,a0',a1,n1,z0,z1,z2,z3,z4,z5,z6⟩
   ·rw[w1]at g1⊢;exact⟨1,0,0,0,0,true,⟨_,_,_,g1,Hp u 1 e o1,Hp u 1 e o1,Hp u 1 e o1⟩,rfl,by simp⟩
   have ea0:a0'=1:=by omega
   subst ea0;rw[w1]at g1⊢;have x1:oI r1.2.1:=⟨by omega,by omega⟩;simp only[Ag,Ac,Ae]at g1⊢;rw[show((0:Int)==0)=true from rfl,Ae,show ad 0 1=1 from ad1 (i:=0)<|by omega];simp only;obtain⟨r2,p2,q2,y1⟩:=I8 u r1.2.1 (by omega) x1;have g2:=JX u r1.2.1 e p2;rw[Aw,hB];unfold EF;rw[cT,q2,Aa]
   rcases y1 with⟨y1,_,_⟩|⟨y1,b0,a2,n2,y2,y3,y4,y5,y6,y7,y8⟩
   ·rw[y1]at g2⊢;exact⟨r1.2.1,r1.1,0,0,0,true,⟨_,_,_,g1,g2,Hp u _ e x1,Hp u _ e x1⟩,rfl,by simp⟩
   have eb:b0=a1:=by omega
   subst eb;rw[y1]at g2⊢;have x2:oI r2.2.1:=⟨by omega,by omega⟩;simp only[Ag,Ac,Ae]at g2⊢;rw[show((1:Int)==0)=false from rfl,Ac,show((1:Int)==1)=true from rfl,Ae,show ad 1 1=2 from ad1 (i:=1)<|by omega];simp only;obtain⟨r3,p3,q3,k1⟩:=I8 u r2.2.1 (by omega) x2;have g3:=JX u r2.2.1 e p3;rw[Aw,hB];unfold EF;rw[cT,q3,Aa]
   rcases k1 with⟨k1,_,_⟩|⟨k1,c0,a3,n3,k2,k3,k4,k5,k6,k7,k8⟩
   ·rw[k1]at g3⊢;exact⟨r2.2.1,r1.1,r2.1,0,0,true,⟨_,_,_,g1,g2,g3,Hp u _ e x2⟩,rfl,by simp⟩
   have ec:c0=a2:=by omega
   subst ec;rw[k1]at g3⊢;have x3:oI r3.2.1:=⟨by omega,by omega⟩;simp only[Ag,Ac,Ae]at g3⊢;rw[show((2:Int)==0)=false from rfl,Ac,show((2:Int)==1)=false from rfl,Ac,show((2:Int)==2)=true from rfl,Ae,show ad 2 1=3 from ad1 (i:=2)<|by omega];simp only;obtain⟨r4,p4,q4,l1⟩:=I8 u r3.2.1 (by omega) x3;have g4:=JX u r3.2.1 e p4;rw[Aw,hB];unfold EF;rw[cT,q4,Aa]
   rcases l1 with⟨l1,_,_⟩|⟨l1,d0,a4,n4,l2,l3,l4,l5,l6,l7,l8⟩
   ·rw[l1]at g4⊢;exact⟨r3.2.1,r1.1,r2.1,r3.1,0,true,⟨_,_,_,g1,g2,g3,g4⟩,rfl,by simp⟩
   have ed:d0=a3:=by omega
   subst ed;rw[l1]at g4⊢;simp only[Ag,Ac,Ae]at g4⊢;rw[show((3:Int)==0)=false from rfl,Ac,show((3:Int)==1)=false from rfl,Ac,show((3:Int)==2)=false from rfl,Ac,show((3:Int)==3)=true from rfl,Ae,show ad 3 1=4 from ad1 (i:=3)<|by omega];simp only;rw[Aw,hB];unfold EF;rw[cF];exact⟨r4.2.1,r1.1,r2.1,r3.1,r4.1,false,⟨_,_,_,g1,g2,g3,g4⟩,rfl,λ_=>⟨b0,c0,d0,a4,n1,n2,n3,n4,z2,y4,k4,l4,l3,z3,y5,k5,l5,l6,z5,y7,k7,l7,z6,y8,k8,l8⟩⟩
  obtain⟨a,m1,m2,m3,m4,bad,⟨c1,c2,c3,f1,f2,f3,f4⟩,f5,f6⟩:=four_ (λs:Int×Int×Int×Int×Int×Int=>EF (u,true) s.1 s.2.1 s.2.2.1 s.2.2.2.1 s.2.2.2.2.1 s.2.2.2.2.2) λ_ _ _ _ _ _=>rfl;rw[f5];simp only[f1,f2,f3,f4,Aa]
  cases bad with
  |true=>exact⟨eZ,false,rfl,rfl,λ_=>rfl,by simp⟩
  |false=>
   obtain⟨a1,a2,a3,a4,n1,n2,n3,n4,rfl,rfl,rfl,rfl,rfl,i1,i2,i3,i4,i5,j1,j2,j3,j4,s1,s2,s3,s4⟩:=f6 rfl;simp only[Ac,Aa,Bv];have q:sx u 0=some (((L u)[0]'(by omega)).toNat:Int):=Fg u (i:=0) (by omega);have h:sub u (a4:Int) (FQ u)=some (u.extract a4 (L u).length):=by rw[Bz];exact FK u (by omega)<|by omega
   rw[q,h];simp only[Aa];have hk:=lF ((L u)[0]'(by omega));have hw:IntKind.i64.wrap (((L u)[0]'(by omega)).toNat:Int)=((L u)[0]'(by omega)).toNat:=Pm (by omega) (by omega);rw[hw];obtain⟨po,po1,po2,_⟩:=Tm (Page.mk (((L u)[0]'(by omega)).toNat:Int) n1 n2 n3 n4<|u.extract a4 (L u).length);rw[po2];simp only[Aa]
   cases po with
   |false=>
    have:Eu (Page.mk (((L u)[0]'(by omega)).toNat:Int) n1 n2 n3 n4<|u.extract a4 (L u).length)=some (bs [],false):=by
     unfold Eu;rw[po1];rfl
    rw[this];exact⟨eZ,false,rfl,rfl,λ_=>rfl,by simp⟩
   |true=>
    have hT:L (u.extract a4 (L u).length)=(L u).drop a4:=by
     rw[IB];exact AH<|by simp
    have f:L u=[(L u)[0]'(by omega)]++Co n1++Co n2++Co n3++Co n4++L (u.extract a4 (L u).length):=by
     rw[hT,s1,s2,s3,s4];have h0:L u=[(L u)[0]'(by omega)]++(L u).drop 1:=by
      have:=AL (l:=L u) (i:=0) (by omega);simpa using this
     have d1:=QW (L u) (a:=1) (b:=a1) (by omega);have d2:=QW (L u) (a:=a1) (b:=a2) (by omega);have d3:=QW (L u) (a:=a2) (b:=a3) (by omega);have d4:=QW (L u) (a:=a3) (b:=a4) (by omega);simp only[AE];rw[<-d4,<-d3,<-d2,<-d1];exact h0
    rw[XD _ u ((L u)[0]'(by omega)) n1 n2 n3 n4 po1 rfl rfl rfl rfl rfl j1 j2 j3 j4 e f];obtain⟨v',hv',hs'⟩:=(Tl u).2 e;rw[hv]at hv'
    injection hv' with hv'
    subst hv';rw[hs',Aa];have:seq (u++four v) t=true:=by rw[JD,A3];exact o.symm
    simp only[Ag,Ac,Aa,this];exact⟨_,true,rfl,rfl,by simp,λ_=>po1⟩
def Pk (x:Leaf):Nat:=x.Text.size
def Kk (x:Block):Nat:=zl Pk x.Leaves
def NC (x:Flash):Nat:=zl Kk x.Blocks
theorem ABX (f:Flash) (h:NC f<=1048576):JI f/\∀b∈f.Blocks,∀x∈b.Leaves,(L x.Text).length<=1048576:=by
 have h1:=R1 (z:=Kk) (l:=f.Blocks);unfold NC at h;refine⟨⟨by omega,λb hb=>?_⟩,λb hb x hx=>?_⟩
 ·have h2:=gH (z:=Kk) hb;have h3:=R1 (z:=Pk) (l:=b.Leaves);have e:Kk b=zl Pk b.Leaves:=rfl;omega
 have h2:=gH (z:=Kk) hb;have h3:=gH (z:=Pk) hx;have e:Kk b=zl Pk b.Leaves:=rfl;have e2:Pk x=x.Text.size:=rfl;rw[WT];omega
def nl (l:List Block):Nat:=(l.map λb=>b.Leaves.length).sum
theorem ADV (f:Flash):nl f.Blocks<=NC f:=by
 unfold nl NC zl;have:∀l:List Block,(l.map λb=>b.Leaves.length).sum<=(l.map Kk).sum:=by
  intro l
  induction l with
  |nil=>simp
  |cons b l ih=>
   have:=R1 (z:=Pk) (l:=b.Leaves);have e:Kk b=zl Pk b.Leaves:=rfl
   grind
 grind
def Sb (f:Flash) (y:Aq):Prop:=∃b x,gi f.Blocks y.Block=some b/\gi b.Leaves y.Leaf=some x/\(x.Is==1)=true/\F8 x.Text=some (y.Page,true)
theorem XA {b:Block} {x:Leaf} (f:Flash) (hf:JI f) (hb:f.Blocks[i]?=some b) (hx:b.Leaves[k]?=some x):Qa f i k=some (cond (x.Is==1) (x.Text,true) (bs [],false)):=by
 have h1:=(Af.1 hb).1;have h2:=(Af.1 hx).1;have h3:=hf.1;have h4:=hf.2 b<|Au hb;unfold Qa;rw[Ch (by rw[Bq];omega) (by rw[Bq];omega),Ro,Bq,Ad (by omega:(0:Int)<=(i:Int)),Ad (by omega:(i:Int)<=(f.Blocks.length:Int)-1)];simp only[Aa,MS,Ag,Ac,Ar,hb];rw[Ch (by rw[Bq];omega) (by rw[Bq];omega),Ro,Bq,Ad (by omega:(0:Int)<=(k:Int)),Ad (by omega:(k:Int)<=(b.Leaves.length:Int)-1)]
 grind
theorem aJ (f:Flash) (hf:JI f) (hT:∀b∈f.Blocks,∀x∈b.Leaves,(L x.Text).length<=1048576) (hn:nl f.Blocks<=1048576):
  ∃X,Ao (λs:List Aq×Int=>E5 f s.1 s.2) ([],0)=some X/\Ao (λs:Int×List Aq=>IS f s.1 s.2) (0,[])=some X/\X.length<=nl f.Blocks/\∀y∈X,Sb f y:=by
 refine NW (body:=λs:List Aq×Int=>E5 f s.1 s.2) (body':=λs:Int×List Aq=>IS f s.1 s.2) (λs i=>(s,i)) (λs i=>(i,s)) f.Blocks.length (λi a=>a.length<=((f.Blocks.take i).map λb=>b.Leaves.length).sum/\∀y∈a,Sb f y) (λX=>X.length<=nl f.Blocks/\∀y∈X,Sb f y) ?_ ?_ (s:=[]) ⟨by simp,by simp⟩
 ·intro a i hi ⟨c,d⟩;have hb:f.Blocks[i]?=some f.Blocks[i]:=Ab hi;have hm:f.Blocks[i]∈f.Blocks:=Az _;have h:=R4 (λb:Block=>b.Leaves.length) f.Blocks i hi;have j:=Oy (λb:Block=>b.Leaves.length) f.Blocks<|i+1;unfold nl at hn;have l:=hf.1;refine .inl ?_;simp only[E5,IS,Eh hi,Ar,hb,Aa];obtain⟨u,q1,q2,q3⟩:=NW (body:=λs:List Aq×Int=>Gs f (i:Int) s.1 s.2) (body':=λs:Int×List Aq=>KH (i:Int) f.Blocks[i] s.1 s.2) (λs i=>(s,i)) (λs i=>(i,s)) f.Blocks[i].Leaves.length (λk u=>u.length<=a.length+k/\∀y∈u,Sb f y) (λu=>u.length<=a.length+f.Blocks[i].Leaves.length/\∀y∈u,Sb f y)
   (λu k hk hu=>by
    have hx:f.Blocks[i].Leaves[k]?=some f.Blocks[i].Leaves[k]:=Ab hk;have m:f.Blocks[i].Leaves[k]∈f.Blocks[i].Leaves:=Az _;have n:=hf.2 _ hm
    have g:∀y:Aq,ap 72 u [y]=some (u++ [y]):=λy=>BC<|by grind
    refine .inl ?_;obtain⟨p,ok,r1,r2,r3,r4⟩:=I9 f.Blocks[i].Leaves[k].Text (by grind);simp only[Gs,KH,Eh hk,Ar,hb,hx,Aa,XA f hf hb hx,r2,g];have o:=hu.1
    cases e:f.Blocks[i].Leaves[k].Is==1 with
    |false=>
     obtain⟨p',ok',t1,_⟩:=I9 (bs []) (by rw[EO];simp);simp only[Ac,Aa,t1];refine⟨u,by rw[ad1],by cases ok<;>(simp only[Ae,Ac,Aa];rw[ad1]),by omega,hu.2⟩
    |true=>
     simp only[Ae,Aa,r1]
     cases ok with
     |false=>exact⟨u,by simp only[Ac];rw[ad1],by simp only[Ac,Aa];rw[ad1],by omega,hu.2⟩
     |true=>
      refine⟨u++ [Aq.mk i k p],by simp only[Ae];rw[ad1],by simp only[Ae,Aa];rw[ad1],by grind,λy hy=>?_⟩
      rcases Ap.1 hy with hy|hy
      ·exact hu.2 y hy
      rw[Br]at hy;subst hy
      exact⟨_,_,by simp only[Ar];exact hb,by simp only[Ar];exact hx,e,r1⟩)
   (λu hu=>⟨u,by simp only[Gs,Ar,hb,Aa,DN],by simp only[KH,DN],hu⟩) (s:=a) ⟨by omega,d⟩
  rw[q1,q2,Aa,ad1]
  grind
 intro a ⟨c,d⟩;refine⟨a,by simp only[E5,DN],by simp only[IS,DN],?_,d⟩;rw[DK]at c;exact c
theorem jY {l:List γ} {i j:Int} {x y:γ} (h:gi l j=some y):∃z,gi (si l i x) j=some z:=by
 obtain⟨h1,h2⟩:=CM h;have:=(Af.1 h2).1;unfold gi;rw[AB h1];exact⟨_,Ab (by simp only[si,HF];exact this)⟩
theorem pR (l:List Aq) (k:Int):Ku l k=(AZ (N6 B6) 0 k l).map (Sum.map (λs=>(s.2,s.1)) id):=by
 unfold Ku AZ wU pQ
 cases hk:decide (k>0)with
 |false=>rfl
 |true=>
  simp only[Ae]
  cases h1:gi l (sb k 1)with
  |none=>simp
  |some x=>
   cases h2:gi l k with
   |none=>simp
   |some y=>
    simp only[Aa];have e:(decide<|x.Page.Seq>y.Page.Seq)=N6 B6 y x:=rfl;rw[e]
    cases N6 B6 y x with
    |false=>rfl
    |true=>
     simp only[Ae,h1,h2,Aa];obtain⟨z,hz⟩:=jY (i:=k) (x:=x) h1;rw[hz];rfl
theorem ABb {l l':List γ} {i j:Int} (h:pQ l i j=some l'):l'.length=l.length:=by
 unfold pQ at h;obtain⟨x,_,h⟩:=Al.1 h;obtain⟨y,_,h⟩:=Al.1 h
 injection h with h
 subst h;simp[si]
theorem ABO {a j:Int} {l r:List Aq} (h:Ao (λs:Int×List Aq=>AZ (N6 B6) a s.1 s.2) (j,l)=some r):r.length=l.length:=by
 refine vP (λs:Int×List Aq=>s.2.length=l.length) (λr=>r.length=l.length) ?_ ?_ (s:=(j,l)) rfl h
 ·rintro⟨j,m⟩ s' hm hb;simp only[AZ]at hb;obtain⟨c,_,hb⟩:=Al.1 hb
  cases c with
  |false=>cases hb
  |true=>
   simp only[Ae]at hb;obtain⟨m',h1,hb⟩:=Al.1 hb
   injection hb with hb
   injection hb with hb
   subst hb;exact(ABb h1).trans hm
 rintro⟨j,m⟩ b hm hb;simp only[AZ]at hb;obtain⟨c,_,hb⟩:=Al.1 hb
 cases c with
 |false=>grind
 |true=>
  simp only[Ae]at hb;obtain⟨m',h1,hb⟩:=Al.1 hb;cases hb
theorem aY (f:Flash) (hf:JI f) (hT:∀b∈f.Blocks,∀x∈b.Leaves,(L x.Text).length<=1048576) (hn:nl f.Blocks<=1048576):
  ∃r,Fz f=some r/\Gg f=some r/\r.length<=nl f.Blocks/\(∀y∈r,Sb f y)/\srt B6 r:=by
 obtain⟨X,h1,h2,h3,h4⟩:=aJ f hf hT hn;obtain⟨r,h5,h6,h7⟩:=d7 B6 X (by omega);obtain⟨r',h8,h9,h10⟩:=IN B6 [] X [] (by grind);have hr:r'=r:=NG B6 h9 h6 (λk=>by rw[h7 k,<-h10 k]);subst hr;refine⟨r',?_,?_,?_,?_,h6⟩
 ·unfold Fz;rw[h1,Aa];simp only[A5,A7,Fc,HL]at h8;unfold BR at h8;rw[show ad ((0:Nat):Int) 1=1 from rfl]at h8;have hc:Ao (λs:List Aq×Int=>Kv s.1 s.2) (X,1)=Ao (λs:Int×List Aq=>Bh (N6 B6) ((0:Nat):Int) (X.length:Int) s.1 s.2) (1,X):=by
   refine nF (body:=λs:Int×List Aq=>Bh (N6 B6) ((0:Nat):Int) (X.length:Int) s.1 s.2) (body':=λs:List Aq×Int=>Kv s.1 s.2) (λs=>(s.2,s.1)) (λs=>s.2.length=X.length) ?_ ?_ (1,X) rfl
   ·rintro⟨j,m⟩ hm;simp only at hm;simp only[Kv,Bh,Bq,hm]
    cases decide (j<(X.length:Int))with
    |false=>rfl
    |true=>
     simp only[Ae];rw[qW (body:=λs:Int×List Aq=>AZ (N6 B6) ((0:Nat):Int) s.1 s.2) (body':=λs:List Aq×Int=>Ku s.1 s.2) (λs=>(s.2,s.1)) (λs=>pR s.2 s.1) (j,m)];cases Ao (λs:Int×List Aq=>AZ (N6 B6) ((0:Nat):Int) s.1 s.2) (j,m)<;>rfl
   rintro⟨j,m⟩ s' hm hb;simp only[Bh]at hb
   cases hc:decide (j<(X.length:Int))with
   |false=>grind
   |true=>
    rw[hc,Ae]at hb;obtain⟨m',h1,hb⟩:=Al.1 hb
    injection hb with hb
    injection hb with hb
    subst hb;exact(ABO h1).trans hm
  rw[hc];exact h8
 ·unfold Gg
  grind
 ·rw[<-h7.len];exact h3
 exact λy hy=>h4 y<|(h7.mem).1 hy
theorem NX {S:Type} {body:S->Option (S⊕List α)} (a:List α->Int->S) (g:Nat->α->α) (l0:List α) (h1:∀(i:Nat) (l:List α) x,l.length=l0.length->l[i]?=some x->l0[i]?=some x->body (a l (i:Nat))=some (.inl (a (l.set i (g i x)) ((i+1:Nat):Int)))) (h2:∀l:List α,l.length=l0.length->body (a l (l0.length:Nat))=some (.inr l)):Ao body (a l0 0)=some (l0.mapIdx g):=by
 obtain⟨b,h3,h4⟩:=AJ (body:=body) a l0.length (λi l=>l.length=l0.length/\∀j,l[j]?=if j<i then(l0[j]?).map (g j)else l0[j]?) (λb=>b=l0.mapIdx g)
  (λl i hi hs=>by
   obtain⟨hl,hs⟩:=hs;have c:l0[i]?=some l0[i]:=Ab hi;have hx:l[i]?=some l0[i]:=by grind
   refine .inl ⟨_,h1 i l _ hl hx c,by grind,λj=>?_⟩;rw[DR];by_cases e:i=j
   ·grind
   grind)
  (λl hs=>⟨l,h2 l hs.1,by
   apply Cz
   grind⟩) (s:=l0) ⟨rfl,λj=>by rfl⟩
 rw[h3,h4]
abbrev Ks:=List By
def dk:By:=By.mk true []
def B3 (K:Ks) (i:Int):By:=(gi K i).getD dk
def M1 (k:By) (j:Nat):Int:=(k.Kids[j]?).getD 0
def Qu (K:Ks) (i:Nat) (leaf:Bool) (n:Int):Bool:=bif leaf then decide (0<=n)else(n== -1||(decide (0<=n/\n<=(i:Int)-1)&&(B3 K n).Leaf))
def CJ (K:Ks):Bool:=K.zipIdx.all λz=>z.1.Kids.length==4&&z.1.Kids.all (Qu K z.2 z.1.Leaf)
def Dw (K:Ks) (r:Int):Bool:=r== -1||(decide (0<=r/\r<(K.length:Int))&&!(B3 K r).Leaf)
def Rr (K:Ks) (root:Int) (s:Nat):Int:=if root<0 then 0 else if M1 (B3 K root) (s/4)<0 then 0 else M1 (B3 K<|M1 (B3 K root)<|s/4)<|s %4
def Ff (K:Ks) (root:Int):List Int:=(List.range 16).map<|Rr K root
variable {K X:Ks}
theorem NY (h:i<K.length):B3 K (i:Int)=K[i]:=by
 unfold B3;rw[Ar,Ab h];rfl
theorem HQ {i:Int} (h0:0<=i) (h:i<(K.length:Int)):gi K i=some (B3 K i):=by
 unfold B3;rw[KM h0 h];rfl
theorem Ew (x a b:Int):BH x a b=some (decide (a<=x/\x<=b)):=by
 rw[Ro];simp
theorem G8:CJ K=true↔∀i:Nat,i<K.length->(B3 K (i:Int)).Kids.length=4/\∀n∈(B3 K (i:Int)).Kids,Qu K i (B3 K (i:Int)).Leaf n=true:=by
 unfold CJ;rw[PO];constructor
 ·intro h i hi;have:=h (K[i],i) (by grind);rw[Ai,PO]at this;rw[NY hi]
  grind
 intro h z hz;rw[List.mem_zipIdx_iff_getElem?]at hz;obtain⟨a,hz⟩:=Af.1 hz;have:=h z.2 a;rw[NY a,hz]at this
 grind
theorem Kz (a:Arena) (ha:a.Knots.length<=1048576):GM a=some (CJ a.Knots):=by
 unfold GM;have h:=Z6 (body:=λs:Int=>DZ a s) a.Knots (λi k=>k.Kids.length==4&&k.Kids.all (Qu a.Knots i k.Leaf)) (.inr false) (.inl ()) (by omega)
  (λi k hk=>by
   have hi:=(Af.1 hk).1;simp only[DZ,Eh hi,Ar,hk,Aa];by_cases h4:k.Kids.length=4
   ·have e1:(ln k.Kids !=4)=false:=by simp[ln,h4]
    have e2:(k.Kids.length==4)=true:=by simp[h4]
    simp only[e1,Ac,e2,Ke];have q:=Z6 (body:=λs:Int=>ED a (i:Int) k s) k.Kids (λ_ n=>Qu a.Knots i k.Leaf n) (.inr<|.inr<|.inr false) (.inl ()) (by omega)
     (λj n hn=>by
      have hj:=(Af.1 hn).1;simp only[ED];rw[cT,Ar,hn];simp only[Aa,Qu]
      cases hl:k.Leaf with
      |true=>
       simp only[Ae,Ag,Ac];by_cases h0:n<0
       ·grind
       rw[Ah h0,Ad (by omega:0<=n)];simp only[Ac,Aa,Ae];rw[ad1]
      |false=>
       simp only[Ac,AM,Ae];by_cases h1:n= -1
       ·subst h1;simp only[bne_self_eq_false,Ac,Aa,BEq.rfl,Bool.true_or,Ae];rw[ad1]
       have e3:(n != -1)=true:=by simp[h1]
       have e4:(n== -1)=false:=by simp[h1]
       rw[e3,e4];simp only[Ae,Wa];rw[Ch,Ew];simp only[Aa];by_cases h2:0<=n/\n<=(i:Int)-1
       ·rw[Ad h2];simp only[Ag,Ac];rw[HQ h2.1<|by omega];simp only[Aa,Ke]
        cases(B3 a.Knots n).Leaf with
        |true=>simp only[Ag,Ac,Ae];rw[ad1]
        |false=>rfl
       grind)
     (by simp only[ED];rw[cF])
    rw[q];have hz:(k.Kids.zipIdx.all λz=>Qu a.Knots i k.Leaf z.1)=k.Kids.all (Qu a.Knots i k.Leaf):=by
     rw[show(λz:Int×Nat=>Qu a.Knots i k.Leaf z.1)=(Qu a.Knots i k.Leaf)∘Prod.fst from rfl,<-List.all_map];simp
    rw[Aa,hz]
    cases k.Kids.all (Qu a.Knots i k.Leaf)with
    |true=>simp only[Ae,Bv];rw[ad1]
    |false=>rfl
   have e1:(ln k.Kids !=4)=true:=by simp[ln];omega
   grind)
  (by simp only[DZ,DN])
 rw[h];unfold CJ
 grind
theorem Nd (a:Arena) (ha:a.Knots.length<=1048576) (r:Int):H6 a r=some (Dw a.Knots r):=by
 unfold H6 Dw
 cases hr:(r== -1)with
 |true=>rfl
 |false=>
  simp only[Ac,Wa];rw[Bq,Ch,Ew];simp only[Aa];by_cases h:0<=r/\r<(a.Knots.length:Int)
  ·rw[Ad h,Ad (by omega:0<=r/\r<=(a.Knots.length:Int)-1)];simp only[Ae,Ke];rw[HQ h.1 h.2];rfl
  grind
theorem BV (h:Dw K r=true):r= -1\/(0<=r/\r<(K.length:Int)/\(B3 K r).Leaf=false):=by
 unfold Dw at h
 grind
theorem FE (hK:CJ K=true) (h0:0<=r) (h1:r<(K.length:Int)):(B3 K r).Kids.length=4/\∀j,j<4->(B3 K r).Kids[j]?=some (M1 (B3 K r) j)/\Qu K r.toNat (B3 K r).Leaf (M1 (B3 K r) j)=true:=by
 have:=G8.1 hK r.toNat (by omega);rw[show((r.toNat:Nat):Int)=r by omega]at this;refine⟨this.1,λj hj=>?_⟩;have a:j<(B3 K r).Kids.length:=by omega
 have e:(B3 K r).Kids[j]?=some (M1 (B3 K r) j):=by unfold M1;grind
 grind
theorem Gu (hK:CJ K=true) (h0:0<=r) (h1:r<(K.length:Int)) (hl:(B3 K r).Leaf=false) (hj:j<4):M1 (B3 K r) j= -1\/(0<=M1 (B3 K r) j/\M1 (B3 K r) j<r/\(B3 K (M1 (B3 K r) j)).Leaf=true):=by
 have:=((FE hK h0 h1).2 j hj).2;rw[hl]at this;simp only[Qu,Ac,CE,C3,Ai,A3]at this
 grind
theorem AAc (hK:CJ K=true) (h0:0<=r) (h1:r<(K.length:Int)) (hl:(B3 K r).Leaf=true) (hj:j<4):0<=M1 (B3 K r) j:=by
 have:=((FE hK h0 h1).2 j hj).2;rw[hl]at this;simpa[Qu]using this
theorem qu4 {s:Nat} (h:s<16):qu (s:Int) 4=((s/4:Nat):Int):=by
 unfold qu;rw[show Int.tdiv (s:Int) 4=((s/4:Nat):Int) by rfl];exact Pm (by omega)<|by omega
theorem xK {s:Nat}:Int.tmod (s:Int) 4=((s %4:Nat):Int):=by rfl
theorem Xe {s:Nat} (a:Arena) (hK:CJ a.Knots=true) (hr:Dw a.Knots r=true) (hs:s<16):NN a r (s:Int)=some (Rr a.Knots r s):=by
 unfold NN Rr
 rcases BV hr with rfl|⟨h0,h1,hl⟩
 ·rfl
 rw[Ah (by omega:¬r<0),AA (by omega),Ac,HQ h0 h1];rw[Aa,qu4 hs,Ar,((FE hK h0 h1).2 (s/4)<|by omega).1];simp only[Aa]
 rcases Gu hK h0 h1 hl (show s/4<4 by omega)with e|⟨e1,e2,e3⟩
 ·rw[e];rfl
 rw[Ah (by omega),AA (by omega),Ac,HQ e1<|by omega];rw[Aa,xK,Ar,((FE hK e1<|by omega).2 (s %4)<|by omega).1];rfl
theorem Zc {s:Nat} (a:Arena) (ha:a.Knots.length<=1048576) (hK:CJ a.Knots=true) (hr:Dw a.Knots r=true) (hs:s<16):Qd a r (s:Int)=some (Rr a.Knots r s):=by
 unfold Qd;rw[Kz a ha,Nd a ha,Ew,hK,hr];simp only[Aa,Ag,Ac];rw[Ad (by omega:0<=(s:Int)/\(s:Int)<=15)];simp only[Ag,Ac];rw[Xe a hK hr hs]
 try rfl
theorem NQ (a:Arena) (ha:a.Knots.length<=1048576) (hK:CJ a.Knots=true) (hr:Dw a.Knots r=true):J9 a r=some (Ff a.Knots r):=by
 unfold J9;obtain⟨b,h1,h2⟩:=AJ (body:=λs:List Int×Int=>L0 a r s.1 s.2) (λ(o:List Int) i=>(o,i)) 16 (λi o=>o=(List.range i).map (Rr a.Knots r)) (λb=>b=Ff a.Knots r)
  (λo i hi ho=>by
   refine .inl ⟨_,?_,rfl⟩;simp only[L0]
   rw[cT,Zc a ha hK hr hi,Aa,BC (by rw[ho];simp;omega),Aa,ad1,ho,Ek,Ci,List.map_singleton])
  (λo ho=>⟨_,by rfl,ho⟩) (s:=[]) rfl
 rw[h1,h2];rfl
theorem LK {by_:Nat} (h:l.length*by_<=140737488355328):ap by_ [] l=some l:=by
 rw[BC (by simpa using h),A5]
def AAB (K:Ks):Prop:=K.length<=1048576/\∀k∈K,k.Kids.length<=1048576
theorem KQ (hK:CJ K=true) (h:K.length<=1048576):AAB K:=by
 refine⟨h,λk hk=>?_⟩;obtain⟨i,hi,rfl⟩:=A6 hk;have:=(G8.1 hK i hi).1;rw[NY hi]at this;omega
theorem Vi (a:Arena) (h:AAB a.Knots):N0 a=some a:=by
 unfold N0;have h1:=RZ (body:=λs:Int×List By=>Kn a s.1 s.2) a.Knots (λk=>k)
  (λi k b hk ho=>by
   have hi:=(Af.1 hk).1;have hm:=h.2 k<|Au hk;have:=h.1;simp only[Kn,Eh hi,Ar,hk,Aa]
   rw[LK (by omega),Aa,BC (by simp;omega),Aa,ad1])
  (λb=>by simp only[Kn,DN])
 rw[h1];simp
theorem Gp (s:Store) (h:AAB s.Arena.Knots) (hv:s.Vols.length<=1048576):Ec s=some s:=by
 unfold Ec;rw[LK (by omega),Vi _ h];rfl
def OI (K:Ks) (r:Int) (s:Nat) (n:Int):List Int:=(if r<0 then [0,0,0,0]else if M1 (B3 K r) (s/4)<0 then [0,0,0,0]else(B3 K<|M1 (B3 K r)<|s/4).Kids).set (s %4) n
def To (K:Ks) (r:Int) (s:Nat):List Int:=(if r<0 then [-1,-1,-1,-1]else(B3 K r).Kids).set (s/4) (K.length:Int)
def Jm (K:Ks) (r:Int) (s:Nat) (n:Int):Ks:=K++ [By.mk true<|OI K r s n,By.mk false<|To K r s]
theorem mk4:mk 8 (0:Int) 4=some [0,0,0,0]:=by rfl
theorem nZ {k:By} (h:j<k.Kids.length):gi k.Kids (j:Int)=some (M1 k j):=by
 unfold M1;rw[Ar,Ab h];rfl
theorem YY {s:Nat} (a:Arena) (ha:a.Knots.length<=1048000) (hK:CJ a.Knots=true) (hr:Dw a.Knots r=true) (hs:s<16) (hn:0<=n):
  Yd a r (s:Int) n=some (Arena.mk (Jm a.Knots r s n),(a.Knots.length:Int)+1):=by
 unfold Yd;rw[Vi _ (KQ hK<|by omega),Kz a (by omega),Nd a (by omega),Ew,hK,hr];simp only[Aa,Ag,Ac];rw[Ad (by omega:0<=(s:Int)/\(s:Int)<=15),Ah (by omega:¬n<0)];simp only[Ag,Ac,Aa];rw[mk4];simp only[Aa];have fin:∀(lf tp:List Int),lf.length=4->tp.length=4->Jm a.Knots r s n=a.Knots++ [By.mk true<|lf.set (s %4) n,By.mk false<|tp.set (s/4) (a.Knots.length:Int)]->
   ((gi lf<|Int.tmod (s:Int) 4).bind λx4=>(gi tp<|qu (s:Int) 4).bind λx5=>(ap 32 a.Knots [By.mk true<|si lf (Int.tmod (s:Int) 4) n,By.mk false<|si tp (qu (s:Int) 4)<|ln a.Knots]).bind λq4=>some (Arena.mk q4,sb (ln q4) 1))=some (Arena.mk<|Jm a.Knots r s n,(a.Knots.length:Int)+1):=by
  intro lf tp h1 h2 h3;rw[qu4 hs,xK,Ar,Ar,Ab (by omega),Ab<|by omega];simp only[Aa];rw[BC (by simp;omega),EU,EU,Bq,<-h3];simp only[Aa];rw[Bq,h3,Ak,Ch (by simp;omega) (by simp;omega)]
  grind
 rcases BV hr with rfl|⟨h0,h1,hl⟩
 ·rw[Ah (by omega:¬(-1:Int)>=0)];simp only[Ac,Aa];exact fin _ _ rfl rfl rfl
 rw[cT,HQ h0 h1];have h4:=(FE hK h0 h1).1;simp only[Aa];rw[LK<|by omega];simp only[Aa];rw[qu4 hs,nZ (by omega:s/4<(B3 a.Knots r).Kids.length)];simp only[Aa];rw[<-qu4 hs]
 rcases Gu hK h0 h1 hl (show s/4<4 by omega)with e|⟨e1,e2,e3⟩
 ·rw[Ah (by omega:¬M1 (B3 a.Knots r) (s/4)>=0)];simp only[Ac,Aa];exact fin _ _ rfl h4 (by unfold Jm OI To;simp only[AA (show¬r<0 by omega),AB<|show M1 (B3 a.Knots r) (s/4)<0 by omega])
 rw[cT,HQ e1<|by omega];have h5:=(FE hK e1<|by omega).1;simp only[Aa];rw[LK<|by omega];simp only[Aa];exact fin _ _ h5 h4 (by unfold Jm OI To;grind)
def Oo (K:Ks) (r:Int) (i:Nat):Bool:=decide (0<=r)&&(decide (r=(i:Int))||(B3 K r).Kids.any λn=>decide<|n=(i:Int))
theorem i7 (n:Nat) (f:Nat->α) (g:Nat->α->α):((List.range n).map f).mapIdx g=(List.range n).map λi=>g i (f i):=by
 apply Cz
 grind
theorem Py (n:Nat) (f:Nat->α) (i:Nat) (x:α) (g:Nat->α) (h:∀j,j<n->g j=if j=i then x else f j):((List.range n).map f).set i x=(List.range n).map g:=by
 apply Cz
 grind
theorem Gc {n:Nat} {f:Nat->α} (h:i<n):((List.range n).map f)[i]?=some (f i):=by grind
theorem UV {l:List Int} {m:Nat} (h:l[m]?=some x) (p:Int->Bool):(l.take (m+1)).any p=((l.take m).any p||p x):=by
 rw[DP,h,List.any_append];simp
theorem mA (a:Arena) (ha:a.Knots.length<=1048576) (hK:CJ a.Knots=true) (hr:Dw a.Knots r=true):Vh a r=some ((List.range a.Knots.length).map (Oo a.Knots r)):=by
 unfold Vh;rw[Bq,Z3 (by omega)<|by omega];simp only[Aa]
 rcases BV hr with rfl|⟨h0,h1,hl⟩
 ·simp only[show decide ((-1:Int)<0)=true from rfl,Ae];congr 1;rw[show(Oo a.Knots<|-1)=λ_=>false from rfl,MV,DQ]
 rw[cF];obtain⟨m,rfl⟩:∃m:Nat,r=(m:Int):=⟨r.toNat,by omega⟩;rw[Ar,List.getElem?_replicate,AB<|by omega];simp only[Aa];rw[EU];obtain⟨h4,hk⟩:=FE hK h0 h1;obtain⟨b,q1,q2⟩:=AJ (body:=λs:List Bool×Int=>Mj a (m:Int) s.1 s.2) (λ(o:List Bool) i=>(o,i)) 4
  (λi o=>o=(List.range a.Knots.length).map λ(j:Nat)=>decide ((m:Int)=(j:Int))||((B3 a.Knots (m:Int)).Kids.take i).any λn=>decide<|n=(j:Int))
  (λb=>b=(List.range a.Knots.length).map (Oo a.Knots (m:Int)))
  (λo i hi ho=>by
   obtain⟨e,_⟩:=hk i hi;simp only[Mj];rw[cT,HQ h0 h1];simp only[Aa];rw[Ar,e];simp only[Aa]
   rcases Gu hK h0 h1 hl hi with e1|⟨e1,e2,e3⟩
   ·rw[e1,cF,ad1];refine .inl ⟨o,rfl,?_⟩;rw[ho];apply DO;intro j hj;rw[UV e,e1,Ah (by omega:¬(-1:Int)=(j:Int)),Bool.or_false]
   obtain⟨c,hc⟩:∃c:Nat,M1 (B3 a.Knots (m:Int)) i=(c:Int):=⟨(M1 (B3 a.Knots (m:Int)) i).toNat,by omega⟩;rw[hc,cT]
   try simp only[Aa]
   rw[ho,Ar,Gc<|by omega];simp only[Aa];rw[EU,ad1];refine .inl ⟨_,rfl,?_⟩;apply Py;intro j hj;rw[UV e,hc]
   grind)
  (λo ho=>⟨_,by simp only[Mj];rw[cF],by
   rw[ho];apply DO;intro j hj;rw[AH<|by omega]
   rfl⟩) (s:=(List.replicate a.Knots.length false).set m true) (by
   rw[<-DQ (n:=a.Knots.length),<-MV,DQ];apply Py
   grind)
 rw[q1,q2];rfl
def C8 (K:Ks) (R:List Int) (i:Nat):Bool:=R.any λr=>Oo K r i
def cI (K:Ks) (R:List Int) (i:Nat):Nat:=((List.range i).filter<|C8 K R).length
def Pj (K:Ks) (R:List Int) (n:Int):Int:=if 0<=n then(cI K R n.toNat:Int)else n
def XZ (K:Ks) (R:List Int) (i:Nat):By:=By.mk (B3 K (i:Int)).Leaf<|bif(B3 K (i:Int)).Leaf then(B3 K (i:Int)).Kids else(B3 K (i:Int)).Kids.map<|Pj K R
def T3 (K:Ks) (R:List Int):Ks:=((List.range K.length).filter<|C8 K R).map<|XZ K R
theorem IK (l:List α) (f:α->α):l.mapIdx (λ_ x=>f x)=l.map f:=by
 apply Cz
 grind
theorem Po (hr:r∈R) (h0:0<=r):C8 K R r.toNat=true:=by
 unfold C8;rw[CW];exact⟨r,hr,by unfold Oo;rw[Ad h0,Ad (by omega:r=(r.toNat:Int))];rfl⟩
theorem YA (hK:CJ K=true) (hR:∀r∈R,Dw K r=true) (hu:C8 K R i=true) (hl:(B3 K (i:Int)).Leaf=false):(i:Int)∈R:=by
 unfold C8 at hu;rw[CW]at hu;obtain⟨r,hr,h⟩:=hu;unfold Oo at h;simp only[Ai,CE,A3,CW]at h;obtain⟨h0,h⟩:=h
 rcases h with h|⟨n,hn,h⟩
 ·rw[<-h];exact hr
 rcases BV (hR r hr)with e|⟨_,h1,a⟩
 ·omega
 obtain⟨h4,hk⟩:=FE hK h0 h1;obtain⟨j,hj,b⟩:=A6 hn;have e:=(hk j<|by omega).1;rw[Ab hj,b]at e
 injection e with e
 rcases Gu hK h0 h1 a (show j<4 by omega)with k1|⟨_,_,k3⟩
 ·omega
 grind
theorem UN (hr:r∈R) (h0:0<=r) (hn:n∈(B3 K r).Kids) (h1:0<=n):C8 K R n.toNat=true:=by
 unfold C8;rw[CW];refine⟨r,hr,?_⟩;unfold Oo;rw[Ad h0,Ke,CE,CW]
 grind
theorem ACq (i:Nat):cI K R i<=i:=by
 have:=Dr (C8 K R)<|List.range i;rw[DQ]at this;exact this
theorem bW (a:Arena) (ha:a.Knots.length<=1048576) (R:List Int) (hc:R.length<=1048576) (hR:∀r∈R,Dw a.Knots r=true):Ao (λs:Bool×Int=>FX a R s.1 s.2) (true,0)=some true:=by
 obtain⟨b,h1,h2⟩:=AJ (body:=λs:Bool×Int=>FX a R s.1 s.2) (λ(o:Bool) i=>(o,i)) R.length (λ_ o=>o=true) (λb=>b=true)
  (λo i hi ho=>by
   have hx:=Ab hi;simp only[FX,IX,Ad hi,Ae,Aa,ho,Ar,hx];rw[Nd a ha,hR _<|Az hi,Aa,ad1]
   grind)
  (λo ho=>⟨o,by simp only[FX,IX,EP,HI,Ac,Aa],ho⟩) (s:=true) rfl
 grind
theorem hJ (a:Arena) (ha:a.Knots.length<=1048576) (hK:CJ a.Knots=true) (R:List Int) (hc:R.length<=1048576) (hR:∀r∈R,Dw a.Knots r=true):
  Ao (λs:List Bool×Int=>FW a R s.1 s.2) (List.replicate a.Knots.length false,0)=some ((List.range a.Knots.length).map (C8 a.Knots R)):=by
 obtain⟨b,h1,h2⟩:=AJ (body:=λs:List Bool×Int=>FW a R s.1 s.2) (λ(o:List Bool) i=>(o,i)) R.length (λi o=>o=(List.range a.Knots.length).map λ(j:Nat)=>(R.take i).any λr=>Oo a.Knots r j) (λb=>b=(List.range a.Knots.length).map (C8 a.Knots R))
  (λo i hi ho=>by
   have hx:=Ab hi;simp only[FW,Eh hi,Aa,Ar,hx];rw[mA a ha hK<|hR _<|Az hi];simp only[Aa];have d:o.length=a.Knots.length:=by rw[ho];simp
   have q:=NX (body:=λs:List Bool×Int=>Hx ((List.range a.Knots.length).map<|Oo a.Knots R[i]) s.1 s.2) (λl i=>(l,i)) (λk x=>x||Oo a.Knots R[i] k) o
    (λk l x hl c e=>by
     have hk:k<a.Knots.length:=by grind
     simp only[Hx,IX];rw[Ad (by simpa using hk),Ae,Ar,c];simp only[Aa]
     cases x with
     |true=>simp only[Ae,Bool.true_or];rw[EU,ad1]
     |false=>
      simp only[Ac,Wa]
      rw[Ar,Gc hk,Aa,EU,ad1])
    (λl hl=>by simp only[Hx,IX];grind)
   rw[q,Aa,ad1,ho,i7];refine .inl ⟨_,rfl,?_⟩;apply DO;intro j hj;rw[DP,hx,List.any_append]
   simp)
  (λo ho=>⟨o,by simp only[FW,DN],by rw[ho,AH<|by omega];rfl⟩) (s:=List.replicate a.Knots.length false) (by
   simp only[KY,List.any_nil]
   rw[MV,DQ])
 rw[<-h2];exact h1
def Tq (K:Ks) (R:List Int) (i:Nat):List Int:=(List.range K.length).map λ(j:Nat)=>if j<i/\C8 K R j=true then(cI K R j:Int)else 0
theorem bX (a:Arena) (ha:a.Knots.length<=1048576) (hK:CJ a.Knots=true) (R:List Int) (hR:∀r∈R,Dw a.Knots r=true):
  Ao (λs:List Int×Int×List By=>FV a ((List.range a.Knots.length).map (C8 a.Knots R)) s.1 s.2.1 s.2.2) (List.replicate a.Knots.length 0,0,[])=some (Tq a.Knots R a.Knots.length,T3 a.Knots R):=by
 obtain⟨b,h1,h2⟩:=AJ (body:=λs:List Int×Int×List By=>FV a ((List.range a.Knots.length).map<|C8 a.Knots R) s.1 s.2.1 s.2.2) (λ(o:List Int×List By) i=>(o.1,i,o.2)) a.Knots.length
  (λi o=>o=(Tq a.Knots R i,((List.range i).filter<|C8 a.Knots R).map<|XZ a.Knots R)) (λb=>b=(Tq a.Knots R a.Knots.length,T3 a.Knots R))
  (λo i hi ho=>by
   subst ho;simp only[FV,Eh hi];rw[Ar,Gc hi];simp only[Aa]
   cases hu:C8 a.Knots R i with
   |false=>
    simp only[AM,Ae];rw[ad1];refine .inl ⟨(Tq a.Knots R i,((List.range i).filter<|C8 a.Knots R).map<|XZ a.Knots R),rfl,?_⟩;congr 1
    ·unfold Tq
     grind
    rw[Ek,AI,Ex (by rw[hu];simp)];simp
   |true=>
    simp only[Ag,Ac];have h0:(0:Int)<=(i:Int):=by omega
    have d:(i:Int)<(a.Knots.length:Int):=by omega
    rw[HQ h0 d];obtain⟨h4,hk⟩:=FE hK h0 d;simp only[Aa];rw[LK<|by omega];simp only[Aa];have inner:Ao (λs:Int×List Int=>FU (Tq a.Knots R i) ((B3 a.Knots (i:Int)).Leaf,(B3 a.Knots (i:Int)).Kids) s.1 s.2) (0,(B3 a.Knots (i:Int)).Kids)=some (XZ a.Knots R i).Kids:=by
     unfold XZ
     cases hl:(B3 a.Knots (i:Int)).Leaf with
     |true=>rw[Aw];rfl
     |false=>
      have q:=NX (body:=λs:Int×List Int=>FU (Tq a.Knots R i) (false,(B3 a.Knots (i:Int)).Kids) s.1 s.2) (λl k=>(k,l)) (λ_ x=>Pj a.Knots R x) (B3 a.Knots (i:Int)).Kids
       (λk l x h j m=>by
        have n:k<4:=by grind
        have ex:x=M1 (B3 a.Knots (i:Int)) k:=by grind
        simp only[FU];rw[Ad (by omega:(k:Int)<4)];simp only[Ae,Aa,AM];rw[Ar,j];simp only[Aa]
        rcases Gu hK h0 d hl n with e|⟨e1,e2,e3⟩
        ·rw[cF,ad1];have:Pj a.Knots R x=x:=by unfold Pj;omega
         rw[this,show l.set k x=l from by
          apply Cz
          grind]
        rw[cT];obtain⟨c,hc⟩:∃c:Nat,x=(c:Int):=⟨x.toNat,by omega⟩;have p:x∈(B3 a.Knots (i:Int)).Kids:=Au m;have f:=UN (YA hK hR hu hl) h0 p (by omega);rw[hc]at f;rw[hc,Ar];unfold Tq;rw[Gc (by omega),Aa,AB ⟨by omega,f⟩,EU,ad1]
        rfl)
       (λl h=>by
        simp only[FU]
        grind)
      rw[IK]at q;exact q
    rw[inner];simp only[Aa];have t:gi (Tq a.Knots R i) (i:Int)=some 0:=by
     unfold Tq;rw[Ar,Gc hi,AA<|by omega]
    rw[t];simp only[Aa];have u:=ACq (K:=a.Knots) (R:=R) i;have g:(((List.range i).filter<|C8 a.Knots R).map<|XZ a.Knots R).length=cI a.Knots R i:=by rw[Bm];rfl
    rw[BC (by rw[g];simp;omega),Aa,ad1,Bq,g,EU];refine .inl ⟨(_,_),rfl,?_⟩;congr 1
    ·unfold Tq;apply Py
     grind
    rw[Ek,AI,D3 hu,MW,Ci]
    rfl)
  (λo ho=>⟨o,by simp only[FV,DN],ho⟩) (s:=(List.replicate a.Knots.length 0,[])) (by
   unfold Tq;simp only[Nat.not_lt_zero,false_and,FN];rw[MV,DQ]
   rfl)
 rw[<-h2];exact h1
theorem qC (a:Arena) (ha:a.Knots.length<=1048576) (R:List Int) (hc:R.length<=1048576) (hR:∀r∈R,Dw a.Knots r=true):
  Ao (λs:List Int×Int=>FT (Tq a.Knots R a.Knots.length,T3 a.Knots R) s.1 s.2) (R,0)=some (R.map (Pj a.Knots R)):=by
 have q:=NX (body:=λs:List Int×Int=>FT (Tq a.Knots R a.Knots.length,T3 a.Knots R) s.1 s.2) (λl k=>(l,k)) (λ_ x=>Pj a.Knots R x) R
  (λk l x d f b=>by
   have hk:=(Af.1 b).1;have i:=(Af.1 f).1;simp only[FT,Eh i,Ar,f,Aa]
   rcases BV (hR x<|Au b)with e|⟨e1,e2,e3⟩
   ·rw[cF,ad1];have:Pj a.Knots R x=x:=by unfold Pj;omega
    rw[this,show l.set k x=l from by
     apply Cz
     grind]
   rw[cT];obtain⟨c,g⟩:∃c:Nat,x=(c:Int):=⟨x.toNat,by omega⟩;have h:=Po (K:=a.Knots) (Au b) e1;rw[g]at h;rw[g,Ar];unfold Tq;rw[Gc (by omega),Aa,AB ⟨by omega,h⟩,EU,ad1]
   rfl)
  (λl d=>by simp only[FT,Bq,d];rw[cF])
 rw[IK]at q;exact q
theorem YW (a:Arena) (ha:a.Knots.length<=1048576) (hK:CJ a.Knots=true) (R:List Int) (hc:R.length<=1048576) (hR:∀r∈R,Dw a.Knots r=true):
  Kp a R=some (Arena.mk (T3 a.Knots R),R.map (Pj a.Knots R)):=by
 unfold Kp;rw[LK (by omega),Kz a ha,hK];simp only[Aa];rw[bW a ha R hc hR];simp only[Aa,Ag,Ac];rw[Bq,Z3 (by omega)<|by omega];simp only[Aa];rw[hJ a ha hK R hc hR];simp only[Aa];rw[Z3 (by omega)<|by omega];simp only[Aa];rw[bX a ha hK R hR];simp only[Aa];rw[qC a ha R hc hR];rfl
theorem aB (p:Nat->Bool) (hp:p i=true):∀{n:Nat},i<n->((List.range n).filter p)[((List.range i).filter p).length]?=some i
 |0,h=>by omega
 |n+1,h=>by
  rw[Ek,AI];by_cases e:i=n
  ·grind
  have h2:=aB p hp<|show i<n by omega
  grind
theorem oB {n:Nat} (p:Nat->Bool) (hp:p i=true) (h:i<n):((List.range i).filter p).length<((List.range n).filter p).length:=(Af.1<|aB p hp h).1
theorem n9 (p:Nat->Bool):∀{n j:Nat},j<((List.range n).filter p).length->∃i,i<n/\p i=true/\((List.range i).filter p).length=j
 |0,j,h=>by simp at h
 |n+1,j,h=>by
  rw[Ek,AI,Ak]at h;by_cases e:j<((List.range n).filter p).length
  ·obtain⟨i,h1,h2,h3⟩:=n9 p e
   grind
  grind
theorem gM:(T3 K R).length=cI K R K.length:=by unfold T3 cI;rw[Bm]
theorem S7 (hu:C8 K R i=true) (hi:i<K.length):B3 (T3 K R) (cI K R i:Nat)=XZ K R i/\cI K R i<(T3 K R).length:=by
 have h:=oB (C8 K R) hu hi;have h2:cI K R i<(T3 K R).length:=by rw[gM];exact h
 refine⟨?_,h2⟩;unfold B3;rw[Ar];unfold T3;rw[Ce];have:=aB (C8 K R) hu hi;rw[show cI K R i=((List.range i).filter<|C8 K R).length from rfl,this];rfl
theorem xV (hj:j<(T3 K R).length):∃i,i<K.length/\C8 K R i=true/\cI K R i=j:=by
 rw[gM]at hj;exact n9 (C8 K R) hj
theorem ADM (hu:C8 K R i=true) (h:i<j):cI K R i<cI K R j:=oB _ hu h
theorem YJ (i:Nat):(XZ K R i).Leaf=(B3 K (i:Int)).Leaf:=rfl
theorem s8 (hK:CJ K=true) (hi:i<K.length):(XZ K R i).Kids.length=4:=by
 have:=(G8.1 hK i hi).1;unfold XZ
 grind
theorem s9 (hl:(B3 K (i:Int)).Leaf=false) (hj:j<(B3 K (i:Int)).Kids.length):M1 (XZ K R i) j=Pj K R (M1 (B3 K (i:Int)) j):=by
 unfold M1 XZ
 grind
theorem T1 (hl:(B3 K (i:Int)).Leaf=true):(XZ K R i).Kids=(B3 K (i:Int)).Kids:=by
 unfold XZ;rw[hl];rfl
theorem Ye (h:n<0):Pj K R n=n:=by unfold Pj;omega
theorem SJ (n:Nat):Pj K R (n:Int)=(cI K R n:Int):=by rfl
theorem ACM (hK:CJ K=true) (hR:∀r∈R,Dw K r=true):CJ (T3 K R)=true:=by
 rw[G8];intro j hj;obtain⟨i,hi,hu,rfl⟩:=xV hj;rw[(S7 hu hi).1];refine⟨s8 hK hi,λn hn=>?_⟩;have h0:(0:Int)<=(i:Int):=by omega
 have h1:(i:Int)<(K.length:Int):=by omega
 obtain⟨h4,hk⟩:=FE hK h0 h1;rw[YJ]
 cases hl:(B3 K (i:Int)).Leaf with
 |true=>
  rw[T1 hl]at hn;have:=(G8.1 hK i hi).2 n hn;rw[hl]at this;simpa[Qu]using this
 |false=>
  obtain⟨m,hm,b⟩:=A6 hn;rw[s8 hK hi]at hm;have e:n=Pj K R (M1 (B3 K (i:Int)) m):=by
   rw[<-s9 hl (by omega),<-b];unfold M1
   grind
  rcases Gu hK h0 h1 hl hm with k1|⟨k1,k2,k3⟩
  ·rw[k1,Ye<|by omega]at e;subst e;rfl
  obtain⟨c,hc⟩:∃c:Nat,M1 (B3 K (i:Int)) m=(c:Int):=⟨_,(AX k1).symm⟩;rw[hc]at e k2 k3;rw[SJ]at e;have a:=UN (YA hK hR hu hl) h0 (Au (hk m hm).1) (by omega);rw[hc]at a;have d:c<K.length:=by omega
  have f:cI K R c<cI K R i:=ADM (by simpa using a) (by omega);subst e;simp only[Qu,Ac,CE,C3,Ai,A3];refine .inr ⟨by omega,?_⟩;rw[(S7 (by simpa using a) d).1,YJ];exact k3
theorem yU (hR:∀r∈R,Dw K r=true) (hr:r∈R):Dw (T3 K R) (Pj K R r)=true:=by
 rcases BV (hR r hr)with e|⟨h0,h1,hl⟩
 ·rw[e,Ye<|by omega];rfl
 obtain⟨c,rfl⟩:∃c:Nat,r=(c:Int):=⟨_,(AX h0).symm⟩;have a:=Po (K:=K) hr h0;rw[Bi]at a;obtain⟨g1,g2⟩:=S7 a (by omega);rw[SJ];unfold Dw;rw[Ad (by omega),g1,YJ,hl];simp
theorem tL (hK:CJ K=true) (hR:∀r∈R,Dw K r=true) (hr:r∈R):Ff (T3 K R) (Pj K R r)=Ff K r:=by
 unfold Ff;apply DO;intro s hs;rw[KZ]at hs;unfold Rr
 rcases BV (hR r hr)with e|⟨h0,h1,hl⟩
 ·rw[e,Ye (by omega),AB (by omega),AB<|by omega]
 obtain⟨c,rfl⟩:∃c:Nat,r=(c:Int):=⟨_,(AX h0).symm⟩;have a:=Po (K:=K) hr h0;rw[Bi]at a;obtain⟨g1,g2⟩:=S7 a (by omega);obtain⟨h4,hk⟩:=FE hK h0 h1;rw[SJ,g1,s9 hl<|by omega];simp only[AA (show¬((cI K R c:Nat):Int)<0 by omega),AA<|show¬((c:Nat):Int)<0 by omega]
 rcases Gu hK h0 h1 hl (show s/4<4 by omega)with k1|⟨k1,k2,k3⟩
 ·rw[k1,Ye<|by omega];rfl
 obtain⟨d,hd⟩:∃d:Nat,M1 (B3 K (c:Int)) (s/4)=(d:Int):=⟨_,(AX k1).symm⟩;have b:=UN hr h0 (Au (hk (s/4)<|by omega).1) k1;rw[hd]at b k2 k3;rw[hd,SJ];simp only[AA (show¬((cI K R d:Nat):Int)<0 by omega),AA<|show¬((d:Nat):Int)<0 by omega];rw[(S7 (by simpa using b)<|by omega).1];unfold M1;rw[T1 k3]
theorem ABc (hK:CJ K=true) (hR:∀r∈R,Dw K r=true) (hj:j<(T3 K R).length):C8 (T3 K R) (R.map (Pj K R)) j=true:=by
 obtain⟨i,hi,hu,rfl⟩:=xV hj;have hu':=hu;unfold C8 at hu';rw[CW]at hu';obtain⟨r,hr,h⟩:=hu';unfold Oo at h;simp only[Ai,CE,A3,CW]at h;obtain⟨h0,h⟩:=h;unfold C8;rw[CW];refine⟨Pj K R r,A9.2 ⟨r,hr,rfl⟩,?_⟩;obtain⟨c,rfl⟩:∃c:Nat,r=(c:Int):=⟨_,(AX h0).symm⟩;rw[SJ];unfold Oo;simp only[Ai,CE,A3,CW];refine⟨by omega,?_⟩
 rcases h with h|⟨n,hn,h⟩
 ·grind
 right
 rcases BV (hR _ hr)with e|⟨_,h1,hl⟩
 ·omega
 have a:=Po (K:=K) hr h0;rw[Bi]at a;rw[(S7 a<|by omega).1];refine⟨(cI K R i:Int),?_,rfl⟩;unfold XZ;rw[hl];simp only[Ac,A9];exact⟨n,hn,by rw[h,SJ]⟩
theorem NZ {i:Int} (h0:0<=i) (h:i<(K.length:Int)):B3 (K++X) i=B3 K i:=by
 obtain⟨c,rfl⟩:∃c:Nat,i=(c:Int):=⟨_,(AX h0).symm⟩;unfold B3;rw[Ar,Ar,BZ<|by omega]
theorem yR (h:Dw K r=true):Dw (K++X) r=true:=by
 rcases BV h with e|⟨h0,h1,hl⟩
 ·rw[e];rfl
 unfold Dw;rw[NZ h0 h1,hl,Ad<|by grind];simp
theorem tH (hK:CJ K=true) (h:Dw K r=true):Ff (K++X) r=Ff K r:=by
 unfold Ff;apply DO;intro s hs;rw[KZ]at hs;unfold Rr
 rcases BV h with e|⟨h0,h1,hl⟩
 ·rw[e];rfl
 rw[NZ h0 h1];simp only[AA<|show¬r<0 by omega]
 rcases Gu hK h0 h1 hl (show s/4<4 by omega)with k1|⟨k1,k2,k3⟩
 ·rw[k1];rfl
 rw[NZ k1<|by omega]
theorem fJ {s:Nat} (hK:CJ K=true) (hr:Dw K r=true) (hs:s<16) (n:Int):(OI K r s n).length=4:=by
 unfold OI;rw[HF]
 rcases BV hr with e|⟨h0,h1,hl⟩
 ·grind
 rw[AA<|by omega]
 rcases Gu hK h0 h1 hl (show s/4<4 by omega)with k1|⟨k1,k2,k3⟩
 ·grind
 rw[AA<|by omega];exact(FE hK k1<|by omega).1
theorem lH (hK:CJ K=true) (hr:Dw K r=true) (s:Nat):(To K r s).length=4:=by
 unfold To;rw[HF]
 rcases BV hr with e|⟨h0,h1,hl⟩
 ·grind
 rw[AA<|by omega];exact(FE hK h0 h1).1
theorem W6 {s:Nat}:B3 (Jm K r s n) (K.length:Int)=By.mk true (OI K r s n):=by
 unfold B3 Jm;rw[Ar,B5<|Ax _,Nat.sub_self];rfl
theorem W5 {s:Nat}:B3 (Jm K r s n) ((K.length:Int)+1)=By.mk false (To K r s):=by
 unfold B3 Jm;rw[show(K.length:Int)+1=((K.length+1:Nat):Int)from rfl,Ar,B5 (by omega),show K.length+1-K.length=1 by omega];rfl
theorem ACW {s:Nat} (hK:CJ K=true) (hr:Dw K r=true) (hs:s<16) (hn:0<=n):CJ (Jm K r s n)=true:=by
 rw[G8];intro j hj;have a:(Jm K r s n).length=K.length+2:=by unfold Jm;simp
 rw[a]at hj;by_cases h:j<K.length
 ·have hk:B3 (Jm K r s n) (j:Int)=B3 K (j:Int):=NZ (by omega) (by omega);rw[hk];obtain⟨h4,h5⟩:=G8.1 hK j h;refine⟨h4,λm hm=>?_⟩;have:=h5 m hm
  cases hl:(B3 K (j:Int)).Leaf with
  |true=>rw[hl]at this;exact this
  |false=>
   rw[hl]at this;simp only[Qu,Ac,CE,C3,Ai,A3]at this⊢
   rcases this with e|⟨e1,e2⟩
   ·exact .inl e
   refine .inr ⟨e1,?_⟩;rw[show B3 (Jm K r s n) m=B3 K m from NZ e1.1<|by omega];exact e2
 by_cases e:j=K.length
 ·subst e;rw[W6];refine⟨fJ hK hr hs n,λm hm=>?_⟩;simp only[Qu,Ae,A3];unfold OI at hm
  rcases Dg hm with hm|hm
  ·rcases BV hr with e|⟨h0,h1,hl⟩
   ·grind
   rw[AA<|by omega]at hm
   rcases Gu hK h0 h1 hl (show s/4<4 by omega)with k1|⟨k1,k2,k3⟩
   ·grind
   rw[AA<|by omega]at hm;have hq:=G8.1 hK (M1 (B3 K r)<|s/4).toNat (by omega);rw[AX k1,k3]at hq;have:=hq.2 m hm;simpa[Qu]using this
  omega
 have:j=K.length+1:=by omega
 subst this;rw[show((K.length+1:Nat):Int)=(K.length:Int)+1 from rfl,W5];refine⟨lH hK hr s,λm hm=>?_⟩;simp only[Qu,Ac,CE,C3,Ai,A3];unfold To at hm
 rcases Dg hm with hm|hm
 ·rcases BV hr with e|⟨h0,h1,hl⟩
  ·grind
  rw[AA<|by omega]at hm;obtain⟨q,hq,rfl⟩:=A6 hm;obtain⟨h4,hk⟩:=FE hK h0 h1;have e5:=(hk q<|by omega).1;rw[Ab hq]at e5
  injection e5 with e5
  rw[e5]
  rcases Gu hK h0 h1 hl (show q<4 by omega)with k1|⟨k1,k2,k3⟩
  ·exact .inl k1
  refine .inr ⟨by omega,?_⟩;rw[show B3 (Jm K r s n) (M1 (B3 K r) q)=B3 K (M1 (B3 K r) q)from NZ k1 (by omega)];exact k3
 refine .inr ⟨by omega,?_⟩;rw[hm,W6]
theorem vE {s:Nat}:Dw (Jm K r s n) ((K.length:Int)+1)=true:=by
 unfold Dw;rw[W5,Ad (by unfold Jm;simp;omega)];simp
theorem tQ {s:Nat} (hK:CJ K=true) (hr:Dw K r=true) (hs:s<16):Ff (Jm K r s n) ((K.length:Int)+1)=(Ff K r).set s n:=by
 unfold Ff;symm;apply Py;intro t ht;unfold Rr;rw[W5];simp only[AA<|show¬((K.length:Int)+1)<0 by omega];have b:=lH hK hr s;have a:=fJ hK hr hs n;by_cases hq:t/4=s/4
 ·have e1:M1 (By.mk false<|To K r s) (t/4)=(K.length:Int):=by
   unfold M1 To;rw[hq,DR,AB rfl];unfold To at b
   grind
  rw[e1,AA (by omega),W6];have e2:M1 (By.mk true<|OI K r s n) (t %4)=if t %4=s %4 then n else(if r<0 then 0 else if M1 (B3 K r) (s/4)<0 then 0 else M1 (B3 K<|M1 (B3 K r)<|s/4)<|t %4):=by
   unfold M1 OI;unfold OI at a;rw[HF]at a;rw[DR];by_cases e:s %4=t %4
   ·grind
   rw[AA e,AA<|HK e];have zero:([0,0,0,0]:List Int)[t %4]?.getD 0=0:=by
    have:t %4<4:=by omega
    generalize t %4=q at this
    match q,this with
    |0,_=>rfl
    |1,_=>rfl
    |2,_=>rfl
    |3,_=>rfl
   by_cases c1:r<0
   ·grind
   rw[AA c1,AA c1];unfold M1
   grind
  grind
 rw[AA<|show¬t=s by omega];have e1:M1 (By.mk false<|To K r s) (t/4)=if r<0 then-1 else M1 (B3 K r) (t/4):=by
  unfold M1 To;rw[DR,AA<|HK hq];by_cases c1:r<0
  ·rw[AB c1,AB c1];have:t/4<4:=by omega
   generalize t/4=q at this
   match q,this with
   |0,_=>rfl
   |1,_=>rfl
   |2,_=>rfl
   |3,_=>rfl
  grind
 rw[e1]
 rcases BV hr with e|⟨h0,h1,hl⟩
 ·rw[e];rfl
 simp only[AA<|show¬r<0 by omega]
 rcases Gu hK h0 h1 hl (show t/4<4 by omega)with k1|⟨k1,k2,k3⟩
 ·rw[k1];rfl
 rw[show B3 (Jm K r s n) (M1 (B3 K r)<|t/4)=B3 K (M1 (B3 K r)<|t/4)from NZ k1 (by omega)]
def MD (n:Nat) (p:Nat->Bool):Nat:=((List.range n).filter p).length
theorem LF (n:Nat) (p:Nat->Bool):MD (n+1) p=MD n p+(if p n=true then 1 else 0):=by
 unfold MD;rw[Ek,AI,Ak]
 grind
theorem Yx (p q:Nat->Bool):∀n,MD n (λj=>p j||q j)<=MD n p+MD n q
 |0=>by simp[MD]
 |n+1=>by
  have:=Yx p q n;rw[LF,LF,LF]
  grind
theorem aK (x:Int):∀n,MD n (λj=>decide (x=(j:Int)))<=1/\(x>=(n:Int)->MD n (λj=>decide (x=(j:Int)))=0)
 |0=>by simp[MD]
 |n+1=>by
  obtain⟨h1,h2⟩:=aK x n;rw[LF]
  grind
theorem AAy (l:List Int) (n:Nat):MD n (λj=>l.any λx=>decide (x=(j:Int)))<=l.length:=by
 induction l with
 |nil=>simp[MD]
 |cons x l ih=>
  simp only[List.any_cons,A8];have:=Yx (λj=>decide<|x=(j:Int)) (λj=>l.any λx=>decide<|x=(j:Int)) n;have:=(aK x n).1;omega
theorem ABU {n:Nat} {q:Nat->Bool} (h:∀j,j<n->p j=true->q j=true):MD n p<=MD n q:=by
 induction n with
 |zero=>simp[MD]
 |succ n ih=>
  have:=ih (λj hj=>h j<|by omega);rw[LF,LF]
  grind
theorem oH {n:Nat} (h:∀j,j<n->p j=true):MD n p=n:=by
 induction n with
 |zero=>rfl
 |succ n ih=>rw[LF,AB (h n<|by omega),ih λj hj=>h j<|by omega]
theorem ABQ (hK:CJ K=true) (hr:Dw K r=true) (n:Nat):MD n (Oo K r)<=5:=by
 have h1:=Yx (λj=>decide<|r=(j:Int)) (λj=>(B3 K r).Kids.any λn=>decide<|n=(j:Int)) n;have h2:=(aK r n).1;have h3:=AAy (B3 K r).Kids n
 have h4:MD n (Oo K r)<=MD n (λj=>decide (r=(j:Int))||(B3 K r).Kids.any λn=>decide<|n=(j:Int)):=ABU λj _ h=>by
  unfold Oo at h
  grind
 rcases BV hr with e|⟨h0,hl,_⟩
 ·have:MD n (Oo K r)=MD n (λ_=>false):=by rw[e];rfl
  rw[this];unfold MD;rw[Bk.2<|by simp];simp
 have:=(FE hK h0 hl).1;omega
theorem YB (hK:CJ K=true) (n:Nat):∀(R:List Int),(∀r∈R,Dw K r=true)->MD n (C8 K R)<=5*R.length
 |[],_=>by simp[MD,C8]
 |r::R,h=>by
  have h1:=YB hK n R (λx hx=>h x<|by simp[hx]);have h2:=ABQ hK (h r<|by simp) n;have h3:=Yx (Oo K r) (C8 K R) n;have h4:MD n (C8 K (r::R))=MD n (λj=>Oo K r j||C8 K R j):=rfl
  grind
theorem uV (hK:CJ K=true) (hR:∀r∈R,Dw K r=true):(T3 K R).length<=5*R.length:=by
 rw[gM];exact YB hK _ R hR
def Bs (s:Store):List Int:=s.Vols.map Vol.Root
structure StoreR (s:Store):Prop where
 len:s.Vols.length<=3
 ar:CJ s.Arena.Knots=true
 nx:1<=s.Next/\s.Next<=1000000000
 ids:∀v∈s.Vols,1<=v.Id/\v.Id<=9
 asc:(s.Vols.map Vol.Id).Pairwise (·<·)
 root:∀r∈Bs s,Dw s.Arena.Knots r=true
 lt:∀r∈Bs s,∀x∈Ff s.Arena.Knots r,x<s.Next
 few:s.Arena.Knots.length<=1000
structure C1 (s:Store):Prop extends StoreR s where
 used:∀i,i<s.Arena.Knots.length->C8 s.Arena.Knots (Bs s) i=true
theorem C1.small (h:C1 s):s.Arena.Knots.length<=15:=by
 have h1:=YB h.ar s.Arena.Knots.length (Bs s) h.root;rw[oH h.used]at h1;have:(Bs s).length=s.Vols.length:=by unfold Bs;rw[Bm]
 have:=h.len;omega
def AR (s:Store):List (Int×List Int):=s.Vols.map λv=>(v.Id,Ff s.Arena.Knots v.Root)
def Lf (s:Store):Store:=Store.mk (s.Vols.map λv=>Vol.mk v.Id<|Pj s.Arena.Knots (Bs s) v.Root) (Arena.mk<|T3 s.Arena.Knots<|Bs s) s.Next
theorem Qk (s:Store):Bs (Lf s)=(Bs s).map (Pj s.Arena.Knots (Bs s)):=by
 unfold Bs Lf;simp only[GE];rfl
theorem sZ (h:StoreR s):C1 (Lf s):=by
 have b:(Bs s).length=s.Vols.length:=by unfold Bs;rw[Bm]
 refine⟨⟨by unfold Lf;simpa using h.len,ACM h.ar h.root,h.nx,?_,?_,?_,?_,?_⟩,?_⟩
 ·intro v hv;unfold Lf at hv;simp only[A9]at hv;obtain⟨w,hw,rfl⟩:=hv;exact h.ids w hw
 ·have:((Lf s).Vols.map Vol.Id)=s.Vols.map Vol.Id:=by unfold Lf;simp
  rw[this];exact h.asc
 ·intro r hr;rw[Qk]at hr;obtain⟨q,hq,rfl⟩:=A9.1 hr;exact yU h.root hq
 ·intro r hr;rw[Qk]at hr;obtain⟨q,hq,rfl⟩:=A9.1 hr;have:=tL h.ar h.root hq;intro x hx;have a:x∈Ff s.Arena.Knots q:=by rw[<-this];exact hx
  exact h.lt q hq x a
 ·have:=uV h.ar h.root;have:=h.len;show(T3 s.Arena.Knots<|Bs s).length<=1000;omega
 intro i hi;rw[Qk];exact ABc h.ar h.root hi
theorem dX (h:StoreR s):AR (Lf s)=AR s:=by
 unfold AR;show(s.Vols.map λv=>Vol.mk v.Id<|Pj s.Arena.Knots (Bs s) v.Root).map _=_;rw[GE];apply DO;intro v hv;have:=tL h.ar h.root<|show v.Root∈Bs s from A9.2 ⟨v,hv,rfl⟩;show(v.Id,Ff (T3 s.Arena.Knots<|Bs s)<|Pj s.Arena.Knots (Bs s) v.Root)=_;rw[this]
theorem T4 (s:Store) (hv:s.Vols.length<=1048576):NM s=some (Bs s):=by
 unfold NM;obtain⟨b,h1,h2⟩:=AJ (body:=λq:List Int×Int=>Ji s q.1 q.2) (λ(o:List Int) i=>(o,i)) s.Vols.length (λi o=>o=(s.Vols.take i).map Vol.Root) (λb=>b=Bs s)
  (λo i hi ho=>by
   have hx:=Ab hi;simp only[Ji,Eh hi,Ar,hx,Aa];rw[BC (by rw[ho];simp;omega),Aa,ad1]
   exact .inl ⟨_,rfl,by rw[ho,DP,hx,Ci];rfl⟩)
  (λo ho=>⟨o,by simp only[Ji,DN],by rw[ho,AH<|Ax _];rfl⟩) (s:=[]) rfl
 rw[h1,h2];rfl
theorem Jg (h:StoreR s):Hj s=some (Lf s):=by
 have hl:=h.len;have hf:=h.few;have c:(Bs s).length=s.Vols.length:=by unfold Bs;rw[Bm]
 unfold Hj;rw[T4 s<|by omega];simp only[Aa];rw[YW _ (by omega) h.ar _ (by omega) h.root];simp only[Aa];rw[LK<|by omega];simp only[Aa];have q:=NX (body:=λq:Int×List Vol=>Jh ((Bs s).map<|Pj s.Arena.Knots<|Bs s,T3 s.Arena.Knots<|Bs s) q.1 q.2) (λl i=>(i,l)) (λ_ v=>Vol.mk v.Id<|Pj s.Arena.Knots (Bs s) v.Root) s.Vols
  (λi l x a b d=>by
   have hi:=(Af.1 b).1;simp only[Jh,Eh hi];have:gi ((Bs s).map<|Pj s.Arena.Knots<|Bs s) (i:Int)=some (Pj s.Arena.Knots (Bs s) x.Root):=by
    rw[Ar,Ce];unfold Bs
    grind
   rw[this,Ar,b];simp only[Aa]
   rw[EU,ad1])
  (λl a=>by simp only[Jh,Bq,a];rw[cF])
 rw[IK]at q;rw[q];rfl
theorem YH (h:C1 s):Lf s=s:=by
 have d:∀i,i<=s.Arena.Knots.length->cI s.Arena.Knots (Bs s) i=i:=λi hi=>oH λj hj=>h.used j<|by omega
 have b:∀n:Int,n<(s.Arena.Knots.length:Int)->Pj s.Arena.Knots (Bs s) n=n:=λn hn=>by
  unfold Pj
  grind
 have a:∀r∈Bs s,Pj s.Arena.Knots (Bs s) r=r:=λr hr=>by
  rcases BV (h.root r hr)with e|⟨h0,h1,_⟩
  ·grind
  exact b r h1
 have c:T3 s.Arena.Knots (Bs s)=s.Arena.Knots:=by
  unfold T3;rw[GA.2 λi hi=>h.used i<|by simpa using hi];apply Cz;intro i;rw[Ce];by_cases hi:i<s.Arena.Knots.length
  ·rw[List.getElem?_range hi,Ab hi];simp only[Bw];congr 1;have h0:(0:Int)<=(i:Int):=by omega
   have h1:(i:Int)<(s.Arena.Knots.length:Int):=by omega
   unfold XZ
   cases hl:(B3 s.Arena.Knots (i:Int)).Leaf with
   |true=>
    simp only[Ae];rw[<-hl,NY hi]
   |false=>
    simp only[Ac];have:(B3 s.Arena.Knots (i:Int)).Kids.map (Pj s.Arena.Knots<|Bs s)=(B3 s.Arena.Knots (i:Int)).Kids:=by
     conv=>rhs;rw[<-UD (B3 s.Arena.Knots (i:Int)).Kids]
     apply DO;intro n hn;obtain⟨q,hq,rfl⟩:=A6 hn;obtain⟨h4,hk⟩:=FE h.ar h0 h1;have e5:=(hk q<|by omega).1;rw[Ab hq]at e5
     injection e5 with e5
     rw[e5]
     rcases Gu h.ar h0 h1 hl (show q<4 by omega)with k1|⟨k1,k2,k3⟩
     ·grind
     grind
    rw[this,<-hl,NY hi]
  grind
 unfold Lf;rw[c];have:(s.Vols.map λv=>Vol.mk v.Id<|Pj s.Arena.Knots (Bs s) v.Root)=s.Vols:=by
  conv=>rhs;rw[<-UD s.Vols]
  apply DO;intro v hv;rw[a _<|A9.2 ⟨v,hv,rfl⟩];rfl
 rw[this]
theorem aO {s:Nat} (hs:s<16):Rr K r s∈Ff K r:=A9.2 ⟨s,by simpa using hs,rfl⟩
theorem RT {l:List Int} {y:Int} (h:l.Pairwise (·<·)) (a:i<j) (hx:l[i]?=some x) (hy:l[j]?=some y):x<y:=by
 obtain⟨h1,rfl⟩:=Af.1 hx;obtain⟨h2,rfl⟩:=Af.1 hy;exact Df.1 h i j h1 h2 a
theorem RF (h:C1 s):Pw s=some true:=by
 have hl:=h.len;have hf:=h.few;have d:(Bs s).length=s.Vols.length:=by unfold Bs;rw[Bm]
 unfold Pw;rw[Bq,cF,Kz _ (by omega),h.ar,Ew,Ad h.nx];simp only[Aa,Ag,Ac];obtain⟨b,h1,h2⟩:=AJ (body:=λq:Int=>Kr s q) (λ(_:Unit) i=>i) s.Vols.length (λ_ _=>True) (λb=>b= .inl ())
  (λ_ i hi _=>by
   have hx:=Ab hi;have hm:s.Vols[i]∈s.Vols:=Az hi;have hr:s.Vols[i].Root∈Bs s:=A9.2 ⟨_,hm,rfl⟩;simp only[Kr,Eh hi,Ar,hx,Aa];rw[Ew,Ad<|h.ids _ hm,Nd _ (by omega),h.root _ hr];simp only[Aa,Ag,Ac];have a:(cond (decide<|(i:Int)>0) ((gi s.Vols<|sb (i:Int) 1).bind λx2=>cond (decide<|x2.Id>=s.Vols[i].Id) (some true)<|some false) (some false):Option Bool)=some false:=by
    by_cases h0:i=0
    ·rw[cF]
    rw[cT,Ch,show(i:Int)-1=((i-1:Nat):Int) by omega,Ar,Ab<|by omega];simp only[Aa];have:=RT h.asc (show i-1<i by omega) (x:=s.Vols[i-1].Id) (y:=s.Vols[i].Id) (by grind) (by grind);rw[cF]
   rw[a];simp only[Aa,Ac];obtain⟨c,q1,q2⟩:=AJ (body:=λq:Int=>Ng s s.Vols[i] q) (λ(_:Unit) i=>i) 16 (λ_ _=>True) (λb=>b= .inl ())
    (λ_ k hk _=>by
     simp only[Ng];rw[cT,Xe _ h.ar (h.root _ hr) hk];simp only[Aa];have:=h.lt _ hr _<|aO hk;rw[cF,ad1]
     simp)
    (λ_ _=>⟨_,by rfl,rfl⟩) (s:=()) trivial
   rw[q1,q2];simp only[Aa,Bv];rw[ad1]
   simp)
  (λ_ _=>⟨_,by simp only[Kr,DN],rfl⟩) (s:=()) trivial
 rw[h1,h2];simp only[Aa,Bv];rw[T4 s (by omega),Aa,YW _ (by omega) h.ar _ (by omega) h.root];simp only[Aa];have:T3 s.Arena.Knots (Bs s)=s.Arena.Knots:=by
  have:=YH h;unfold Lf at this
  grind
 rw[this];simp
abbrev Vs:=List<|Int×List Int
def KN (l:Vs) (id:Int):Option (List Int):=(l.find? λp=>p.1==id).map Prod.snd
def qX (l:Vs) (id:Int) (a:List Int):Vs:=(l.filter λp=>decide<|p.1<id)++ [(id,a)]++l.filter λp=>decide<|p.1>id
def AEK (l:Vs) (id:Int):Vs:=l.filter λp=>p.1 !=id
def gR (l:Vs) (id:Int) (s:Nat) (n:Int):Vs:=l.map λp=>if p.1=id then(p.1,p.2.set s n)else p
def GC (r:Ct):Bool:=decide (0<=r.Arg/\r.Arg<=1000000000)&&(bif r.Kind==1 then r.Vol==0&&r.Chunk==0 else decide (2<=r.Kind/\r.Kind<=5)&&decide (1<=r.Vol/\r.Vol<=9)&&(r.Kind==4||r.Chunk==0)&&
 (bif r.Kind==2 then decide (r.Arg<=9)else bif r.Kind==3 then r.Arg==0 else bif r.Kind==4 then decide (r.Arg<16)&&decide (1<=r.Chunk/\r.Chunk<=1000000000)else decide (r.Arg<16)))
def Ty:List Int:=List.replicate 16 0
def CZ (l:Vs) (nx:Int) (r:Ct):Option (Vs×Int):=if GC r=false then none else if r.Kind=1 then some ([],if r.Arg=0 then 1 else r.Arg) else if r.Kind=2 then
  if(0<r.Arg/\KN l r.Arg=none)\/KN l r.Vol≠none\/l.length=3 then none else some (qX l r.Vol (if 0<r.Arg then(KN l r.Arg).getD Ty else Ty),nx) else if KN l r.Vol=none\/r.Chunk=1000000000 then none else if r.Kind=3 then some (AEK l r.Vol,nx) else some (gR l r.Vol r.Arg.toNat r.Chunk,max nx<|r.Chunk+1)
theorem N3 (r:Ct):O8 r=some (GC r):=by
 unfold O8 GC;simp only[Ew,Aa]
 cases decide (0<=r.Arg/\r.Arg<=1000000000)with
 |false=>rfl
 |true=>grind
theorem DF (s:Store) (hv:s.Vols.length<=1048576) (id:Int):(Dh s id=some (-1)/\∀v∈s.Vols,v.Id≠id)\/∃k:Nat,∃v,Dh s id=some (k:Int)/\s.Vols[k]?=some v/\v.Id=id/\∀j w,j<k->s.Vols[j]?=some w->w.Id≠id:=by
 unfold Dh;obtain⟨b,h1,h2⟩:=AJ (body:=λq:Int=>Hk s id q) (λ(_:Unit) i=>i) s.Vols.length (λi _=>∀j w,j<i->s.Vols[j]?=some w->w.Id≠id)
  (λb=>(b= .inl ()/\∀v∈s.Vols,v.Id≠id)\/∃k:Nat,∃v,b= .inr (k:Int)/\s.Vols[k]?=some v/\v.Id=id/\∀j w,j<k->s.Vols[j]?=some w->w.Id≠id)
  (λ_ i hi hs=>by
   have hx:=Ab hi;simp only[Hk,Eh hi,Ar,hx,Aa]
   cases e:(s.Vols[i].Id==id)with
   |true=>grind
   |false=>
    simp only[Ac];rw[ad1];refine .inl ⟨(),rfl,λj w hj hw=>?_⟩
    grind)
  (λ_ hs=>⟨_,by simp only[Hk,DN],.inl ⟨rfl,λv hv=>by
   obtain⟨j,hj,rfl⟩:=A6 hv
   exact hs j _ hj<|Ab hj⟩⟩) (s:=()) (λj w hj=>by omega)
 grind
theorem LC {id:Int}:(∀v∈s.Vols,v.Id≠id)↔KN (AR s) id=none:=by
 unfold KN AR;simp
theorem ABZ {w:Vol} (h:(s.Vols.map Vol.Id).Pairwise (·<·)) (hv:v∈s.Vols) (hw:w∈s.Vols) (e:v.Id=w.Id):v=w:=by
 obtain⟨i,hi,rfl⟩:=A6 hv;obtain⟨j,hj,rfl⟩:=A6 hw;have gi:(s.Vols.map Vol.Id)[i]?=some s.Vols[i].Id:=by grind
 have gj:(s.Vols.map Vol.Id)[j]?=some s.Vols[j].Id:=by grind
 rcases UC i j with h1|h1|h1
 ·have:=RT h h1 gi gj;omega
 ·subst h1;rfl
 have:=RT h h1 gj gi;omega
theorem LB (h:(s.Vols.map Vol.Id).Pairwise (·<·)) (hv:v∈s.Vols):KN (AR s) v.Id=some (Ff s.Arena.Knots v.Root):=by
 unfold KN;have hm:(v.Id,Ff s.Arena.Knots v.Root)∈AR s:=A9.2 ⟨v,hv,rfl⟩
 cases hf:(AR s).find? λp=>p.1==v.Id with
 |none=>grind
 |some p=>
  have h1:=List.find?_some hf;have h2:=List.mem_of_find?_eq_some hf;obtain⟨w,hw,rfl⟩:=A9.1 h2;have:w=v:=ABZ h hw hv (by simpa using h1);rw[this];rfl
theorem I7 (s:Store):(AR s).length=s.Vols.length:=by unfold AR;rw[Bm]
theorem mS (K:Ks):Ff K (-1)=Ty:=by rfl
theorem rX (s:Store) (p:Int->Bool) (t:Store) (hk:t.Arena=s.Arena) (hv:t.Vols=s.Vols.filter λv=>p v.Id):AR t=(AR s).filter λq=>p q.1:=by
 unfold AR;rw[hk,hv,List.filter_map];rfl
theorem SN {body:List Vol×Int->Option ((List Vol×Int)⊕List Vol)} (l:List Vol) (p:Vol->Bool) (o:List Vol) (hM:l.length+o.length<=1048576) (h1:∀(i:Nat) v (a:List Vol),l[i]?=some v->a.length<=1048576->body (a,(i:Int))=some (.inl (bif p v then a++ [v]else a,((i+1:Nat):Int)))) (h2:∀a,body (a,(l.length:Int))=some (.inr a)):
  Ao body (o,0)=some (o++l.filter p):=by
 obtain⟨b,h3,h4⟩:=AJ (body:=body) (λ(q:List Vol) i=>(q,i)) l.length (λi q=>q=o++(l.take i).filter p) (λb=>b=o++l.filter p)
  (λq i hi hq=>by
   have hx:=Ab hi;refine .inl ⟨_,h1 i _ q hx ?_,?_⟩
   ·grind
   rw[hq,DP,hx,AI]
   grind)
  (λq hq=>⟨q,h2 q,by grind⟩) (s:=o) (by simp)
 rw[h3,h4]
theorem AAk {R':List Int} (h:∀r∈R,r∈R') (hu:C8 K R i=true):C8 K R' i=true:=by
 unfold C8 at hu⊢
 grind
theorem YN {l:List Vol} (h:(l.map Vol.Id).Pairwise (·<·)) (v:Vol):(((l.filter λw=>decide (w.Id<v.Id))++ [v]++l.filter λw=>decide (w.Id>v.Id)).map Vol.Id).Pairwise (·<·):=by
 rw[Ou]at h;rw[Ou,AE,AN];refine⟨h.filter _,?_,?_⟩
 ·grind
 grind
theorem eA (l:List Vol) (id:Int):(l.filter λw=>decide (w.Id<id)).length+(l.filter λw=>decide (w.Id>id)).length<=l.length:=by
 induction l with
 |nil=>simp
 |cons v l ih=>grind
def LU (s:Store) (r:Ct) (o:Option (Store×Bool)):Prop:=match CZ (AR s) s.Next r with
 |none=>o=some (s,false)
 |some (l,nx)=>∃t,o=some (t,true)/\C1 t/\AR t=l/\t.Next=nx
theorem wF {r:Ct} (h:C1 s) (hr:GC r=true) (hk:r.Kind=2):LU s r (Gm s r):=by
 have hl:=h.len;have d:=KQ h.ar (by have:=h.few;omega);have b:=Gp s d (by omega);have hb:GC r=true:=hr;unfold GC at hr;rw[hk]at hr;simp at hr;unfold LU CZ;rw[hb,hk];simp only[J6,FN,BX,show¬((2:Int)=1) by omega];unfold Gm;have root:(KN (AR s) r.Arg=none/\0<r.Arg/\(cond (decide<|r.Arg>0) ((Dh s r.Arg).bind λv1=>cond (decide<|v1<0) ((Ec s).bind λv2=>some<|.inr (v2,false))<|(gi s.Vols v1).bind λx1=>some<|.inl x1.Root) (some<|.inl<|-1):Option (Int⊕(Store×Bool)))=some (.inr (s,false)))\/
   (¬(0<r.Arg/\KN (AR s) r.Arg=none)/\∃q,Dw s.Arena.Knots q=true/\(q= -1\/q∈Bs s)/\Ff s.Arena.Knots q=(if 0<r.Arg then(KN (AR s) r.Arg).getD Ty else Ty)/\(cond (decide<|r.Arg>0) ((Dh s r.Arg).bind λv1=>cond (decide<|v1<0) ((Ec s).bind λv2=>some<|.inr (v2,false))<|(gi s.Vols v1).bind λx1=>some<|.inl x1.Root) (some<|.inl<|-1):Option (Int⊕(Store×Bool)))=some (.inl q)):=by
  by_cases h0:0<r.Arg
  ·rw[Ad (by omega:r.Arg>0)];simp only[Ae]
   rcases DF s (by omega) r.Arg with⟨h1,h2⟩|⟨k,v,h1,h2,h3,_⟩
   ·left;rw[h1,b];exact⟨LC.1 h2,h0,rfl⟩
   right;rw[h1];have hm:=Au h2;have hg:=LB h.asc hm;rw[h3]at hg;refine⟨λhh=>(by grind),v.Root,h.root _<|A9.2 ⟨v,hm,rfl⟩,.inr<|A9.2 ⟨v,hm,rfl⟩,?_,?_⟩
   ·grind
   simp only[Aa];rw[cF,Ar,h2];rfl
  right;rw[Ah (by omega:¬r.Arg>0),AA h0];exact⟨λhh=>h0 hh.1,-1,rfl,.inl rfl,mS _,rfl⟩
 rcases root with⟨g1,g2,g3⟩|⟨g1,q,g2,g3,g4,g5⟩
 ·grind
 rw[g5];simp only[Aa,Bv]
 rcases DF s (by omega) r.Vol with⟨h1,h2⟩|⟨k,v,h1,h2,h3,_⟩
 ·rw[h1];rw[Aa,cF,Bq];have j:KN (AR s) r.Vol=none:=LC.1 h2;by_cases h3:s.Vols.length=3
  ·rw[h3,AB<|.inr<|.inr<|by rw[I7,h3]]
   grind
  have e3:((s.Vols.length:Int)==3)=false:=by simp;omega
  rw[e3,AA (by
   rintro(hh|hh|hh)
   ·exact g1 hh
   ·exact hh j
   rw[I7]at hh;exact h3 hh)]
  simp only[Aa,Ac];rw[b];simp only[Aa];have k1:=SN (body:=λq:List Vol×Int=>Hb s r q.1 q.2) s.Vols (λv=>decide<|v.Id<r.Vol) [] (by simp;omega)
   (λi v c hv ho=>by
    have hi:=(Af.1 hv).1;simp only[Hb,Eh hi,Ar,hv,Aa];rw[ad1]
    cases decide (v.Id<r.Vol)with
    |true=>simp only[Ae];rw[BC (by simp;omega)];rfl
    |false=>rfl)
   (λc=>by simp only[Hb,DN])
  rw[A5]at k1;rw[k1];simp only[Aa];have l:=eA s.Vols r.Vol;rw[BC (by simp;omega)];simp only[Aa];have k2:=SN (body:=λq:List Vol×Int=>Ha s r q.1 q.2) s.Vols (λv=>decide<|v.Id>r.Vol) ((s.Vols.filter λv=>decide<|v.Id<r.Vol)++ [Vol.mk r.Vol q]) (by simp;omega)
   (λi v c hv ho=>by
    have hi:=(Af.1 hv).1;simp only[Ha,Eh hi,Ar,hv,Aa];rw[ad1]
    cases decide (v.Id>r.Vol)with
    |true=>simp only[Ae];rw[BC (by simp;omega)];rfl
    |false=>rfl)
   (λc=>by simp only[Ha,DN])
  rw[k2];simp only[Aa];have f:((s.Vols.filter λv=>decide<|v.Id<r.Vol)++ [Vol.mk r.Vol q]++s.Vols.filter λv=>decide<|v.Id>r.Vol).length<=3:=by grind
  have g:∀x∈Bs s,x∈(Bs<|Store.mk ((s.Vols.filter λv=>decide<|v.Id<r.Vol)++ [Vol.mk r.Vol q]++s.Vols.filter λv=>decide<|v.Id>r.Vol) s.Arena s.Next):=by
   intro x hx;obtain⟨v,hv,rfl⟩:=A9.1 hx;refine A9.2 ⟨v,?_,rfl⟩
   grind
  have a:∀x∈(Bs<|Store.mk ((s.Vols.filter λv=>decide<|v.Id<r.Vol)++ [Vol.mk r.Vol q]++s.Vols.filter λv=>decide<|v.Id>r.Vol) s.Arena s.Next),x= -1\/x∈Bs s:=by
   intro x hx;obtain⟨v,hv,rfl⟩:=A9.1 hx;simp only[Ap,Bc,Br]at hv
   rcases hv with(hv|rfl)|hv
   ·exact .inr<|A9.2 ⟨v,hv.1,rfl⟩
   ·exact g3
   exact .inr<|A9.2 ⟨v,hv.1,rfl⟩
  refine⟨_,rfl,⟨⟨f,h.ar,h.nx,?_,YN h.asc<|Vol.mk r.Vol q,?_,?_,h.few⟩,?_⟩,?_,rfl⟩
  ·intro v hv;simp only[Ap,Bc,Br]at hv
   rcases hv with(hv|rfl)|hv
   ·exact h.ids v hv.1
   ·grind
   exact h.ids v hv.1
  ·intro x hx
   rcases a x hx with e|e
   ·rw[e];rfl
   exact h.root x e
  ·intro x hx
   rcases a x hx with e|e
   ·intro y hy;rw[e]at hy;change y∈Ff s.Arena.Knots (-1)at hy;rw[mS]at hy;have:=Ee hy;have:=h.nx
    grind
   exact h.lt x e
  ·intro i hi;exact AAk g<|h.used i hi
  rw[<-g4];unfold qX AR;simp only[Ci,Cx,List.map_nil,List.filter_map];rfl
 rw[h1];rw[Aa,cT];have hg:=LB h.asc<|Au h2
 grind
theorem TD {f:α->Int} {v:α} (h:(l.map f).Pairwise (·<·)) (hv:l[k]?=some v):l.take k++l.drop (k+1)=l.filter λw=>f w !=f v:=by
 rw[Ou]at h;have hk:=(Af.1 hv).1;have e:l=l.take k++v::l.drop (k+1):=by
  have h2:=AL hk;rw[(Af.1 hv).2]at h2;rw[<-h2,C7]
 rw[e,AN]at h;obtain⟨h1,h2,h3⟩:=h;rw[Cr]at h2
 conv=>rhs;rw[e]
 rw[AI,Ex<|by simp];congr 1
 ·symm;rw[GA]
  grind
 symm;rw[GA]
 grind
theorem AAu (h:C1 s) (id:Int):StoreR (Store.mk (s.Vols.filter λw=>w.Id !=id) s.Arena s.Next):=by
 have hl:=h.len;refine⟨?_,h.ar,h.nx,λv hv=>h.ids v (Bc.1 hv).1,?_,?_,?_,h.few⟩
 ·grind
 ·have:=h.asc
  grind
 ·intro x hx;obtain⟨w,hw,rfl⟩:=A9.1 hx;exact h.root _<|A9.2 ⟨w,(Bc.1 hw).1,rfl⟩
 intro x hx;obtain⟨w,hw,rfl⟩:=A9.1 hx;exact h.lt _<|A9.2 ⟨w,(Bc.1 hw).1,rfl⟩
theorem ACp {t:Nat} (h:C1 s) (h2:s.Vols[k]?=some v) (ht:t<16) (hn:0<=n) (e:n+1<=1000000000):StoreR (Store.mk (s.Vols.set k (Vol.mk v.Id ((s.Arena.Knots.length:Int)+1))) (Arena.mk (Jm s.Arena.Knots v.Root t n)) (max s.Next (n+1))):=by
 have hl:=h.len;have hm:=Au h2;have f:=(Af.1 h2).1;have a:=h.root _<|A9.2 ⟨v,hm,rfl⟩;have g:=h.small
 have b:∀w∈s.Vols.set k (Vol.mk v.Id<|(s.Arena.Knots.length:Int)+1),w∈s.Vols\/w=Vol.mk v.Id ((s.Arena.Knots.length:Int)+1):=λw hw=>Dg hw
 refine⟨by simpa using hl,ACW h.ar a ht hn,?_,?_,?_,?_,?_,?_⟩
 ·have:=h.nx
  grind
 ·intro w hw
  rcases b w hw with hw|rfl
  ·exact h.ids w hw
  exact h.ids v hm
 ·have:(s.Vols.set k<|Vol.mk v.Id<|(s.Arena.Knots.length:Int)+1).map Vol.Id=s.Vols.map Vol.Id:=by
   rw[List.map_set];show(s.Vols.map Vol.Id).set k v.Id=_;apply Cz
   grind
  rw[this];exact h.asc
 ·intro x hx;obtain⟨w,hw,rfl⟩:=A9.1 hx
  rcases b w hw with hw|rfl
  ·exact yR<|h.root _<|A9.2 ⟨w,hw,rfl⟩
  exact vE
 ·intro x hx y hy;obtain⟨w,hw,rfl⟩:=A9.1 hx;show y<max s.Next (n+1)
  rcases b w hw with hw|rfl
  ·have d:=h.root _<|A9.2 ⟨w,hw,rfl⟩;have c:y∈Ff s.Arena.Knots w.Root:=by rw[<-tH (X:=[By.mk true<|OI s.Arena.Knots v.Root t n,By.mk false<|To s.Arena.Knots v.Root t]) h.ar d];exact hy
   have:=h.lt _ (A9.2 ⟨w,hw,rfl⟩) y c;omega
  have c:y∈(Ff s.Arena.Knots v.Root).set t n:=by rw[<-tQ (s:=t) (n:=n) h.ar a (by omega)];exact hy
  rcases Dg c with c|rfl
  ·have:=h.lt _ (A9.2 ⟨v,hm,rfl⟩) y c;omega
  omega
 show(Jm s.Arena.Knots v.Root t n).length<=1000;unfold Jm;simp;omega
theorem aE (h:C1 s) (r:Ct):LU s r (SG s r):=by
 have hl:=h.len;have d:=KQ h.ar (by have:=h.few;omega);have a:=Gp s d (by omega);unfold SG;rw[RF h,N3];simp only[Aa,Ag,Ac]
 cases hb:GC r with
 |false=>
  simp only[AM,Ae];rw[a];unfold LU CZ;rw[hb];rfl
 |true=>
  simp only[Ag,Ac];have hr:=hb;unfold GC at hr
  cases k1:(r.Kind==1)with
  |true=>
   have e1:r.Kind=1:=by simpa using k1
   rw[e1]at hr;simp at hr;unfold LU CZ;rw[hb,e1];simp only[J6,FN,BX,Ae];have:(cond (r.Arg==0) (some 1) (some r.Arg):Option Int)=some (if r.Arg=0 then 1 else r.Arg):=by grind
   rw[this];refine⟨_,rfl,⟨⟨by simp,rfl,?_,by simp,by simp,by simp[Bs],by simp[Bs],by simp⟩,by simp⟩,rfl,rfl⟩
   grind
  |false=>
   simp only[Ac];have n1:r.Kind≠1:=by simpa using k1
   rw[k1]at hr
   cases k2:(r.Kind==2)with
   |true=>
    simp only[Ae];have:=wF h hb (by simpa using k2);have e:((Gm s r).bind λv4=>some (v4.1,v4.2))=Gm s r:=by cases Gm s r<;>rfl
    grind
   |false=>
    simp only[Ac];have n2:r.Kind≠2:=by simpa using k2
    rw[k2]at hr;have hv:1<=r.Vol/\r.Vol<=9:=by simp at hr;omega
    unfold LU CZ;rw[hb];simp only[J6,FN,AA n1,AA n2]
    rcases DF s (by omega) r.Vol with⟨h1,h2⟩|⟨k,v,h1,h2,h3,_⟩
    ·rw[h1];simp only[Aa];rw[cT,AB<|.inl<|LC.1 h2]
     grind
    rw[h1];simp only[Aa];rw[cF];simp only[Aa];have hm:=Au h2;have g:=(Af.1 h2).1;have hg:=LB h.asc hm;rw[h3]at hg
    cases hc:(r.Chunk==1000000000)with
    |true=>grind
    |false=>
     simp only[Ac];have n:r.Chunk≠1000000000:=by simpa using hc
     rw[AA (by grind),a];simp only[Aa]
     cases k3:(r.Kind==3)with
     |true=>
      have e3:r.Kind=3:=by simpa using k3
      rw[AB e3];simp only[Ae];rw[Bq,ad1];have d1:dr s.Vols 0 (k:Int)=some (s.Vols.take k):=by
       unfold dr
       grind
      have d2:dr s.Vols ((k+1:Nat):Int) (s.Vols.length:Int)=some (s.Vols.drop<|k+1):=by
       unfold dr;rw[AB ⟨by omega,by omega,by omega⟩,Bi,Bi,AH<|by simp]
      rw[d1,d2];simp only[Aa];rw[LK (by simp;omega)];simp only[Aa];rw[BC (by simp;omega),TD h.asc h2,h3];simp only[Aa];have hR:=AAu h r.Vol;rw[Jg hR];refine⟨_,rfl,sZ hR,?_,rfl⟩;rw[dX hR];exact rX s (λid=>id !=r.Vol) _ rfl rfl
     |false=>
      have n3:r.Kind≠3:=by simpa using k3
      rw[AA n3];simp only[Ac];rw[k3]at hr;have ha:0<=r.Arg/\r.Arg<16/\0<=r.Chunk/\r.Chunk<=1000000000:=by grind
      obtain⟨t,ht⟩:∃t:Nat,r.Arg=(t:Int):=⟨_,(AX ha.1).symm⟩;rw[Ar,h2];simp only[Aa];have c:=h.root _<|A9.2 ⟨v,hm,rfl⟩;rw[ht,YY _ (by have:=h.few;omega) h.ar c (by omega) ha.2.2.1];simp only[Aa];rw[EU];have o:=h.small;have hR:=ACp h h2 (show t<16 by omega) ha.2.2.1 (show r.Chunk+1<=1000000000 by omega);have f:AR (Store.mk (s.Vols.set k<|Vol.mk v.Id<|(s.Arena.Knots.length:Int)+1) (Arena.mk<|Jm s.Arena.Knots v.Root t r.Chunk)<|max s.Next<|r.Chunk+1)=gR (AR s) r.Vol t r.Chunk:=by
       unfold AR gR;simp only[GE];apply Cz;intro j;rw[Ce,Ce,DR];by_cases e:k=j
       ·subst e;rw[AB rfl,AB g,h2];simp only[Bw,Function.comp];rw[AB h3,tQ h.ar c<|by omega]
       rw[AA e]
       cases hj:s.Vols[j]? with
       |none=>rfl
       |some w=>
        have i:=Au hj;have l:w.Id≠r.Vol:=by
         intro e2;have gi:(s.Vols.map Vol.Id)[k]?=some v.Id:=by grind
         have gj:(s.Vols.map Vol.Id)[j]?=some w.Id:=by grind
         rcases UC k j with q|q|q
         ·have:=RT h.asc q gi gj;omega
         ·exact e q
         grind
        simp only[Bw,Function.comp];rw[AA l];have:=tH (X:=[By.mk true<|OI s.Arena.Knots v.Root t r.Chunk,By.mk false<|To s.Arena.Knots v.Root t]) h.ar<|h.root _<|A9.2 ⟨w,i,rfl⟩;unfold Jm;rw[this]
      have m:∀b:Bool,b=decide (r.Chunk>=s.Next)->(cond b ((Hj<|Store.mk (s.Vols.set k<|Vol.mk v.Id<|(s.Arena.Knots.length:Int)+1) (Arena.mk<|Jm s.Arena.Knots v.Root t r.Chunk)<|ad r.Chunk 1).bind λv11=>some (v11,true))<|(Hj<|Store.mk (s.Vols.set k<|Vol.mk v.Id<|(s.Arena.Knots.length:Int)+1) (Arena.mk<|Jm s.Arena.Knots v.Root t r.Chunk) s.Next).bind λv12=>some (v12,true))=(Hj<|Store.mk (s.Vols.set k<|Vol.mk v.Id<|(s.Arena.Knots.length:Int)+1) (Arena.mk<|Jm s.Arena.Knots v.Root t r.Chunk)<|max s.Next<|r.Chunk+1).bind λv=>some (v,true):=by
       intro b hb;have:=h.nx;by_cases e:r.Chunk>=s.Next
       ·rw[hb,Ad e,Ae,Cs,show max s.Next (r.Chunk+1)=r.Chunk+1 by omega]
       grind
      rw[m _ rfl,Jg hR];refine⟨_,rfl,sZ hR,?_,rfl⟩;rw[dX hR,f,Bi]
end Go.TI
