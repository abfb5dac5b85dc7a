/- What walks of Go code need. No condition. -/
import Derived.Test.YtpnbblnolkhliaaGreatLFT3
import Derived.Laws.BitsLemmas
set_option linter.unusedSimpArgs false
set_option linter.unusedVariables false
namespace Go.TI
open Go
def L (s:ByteArray):List UInt8:=s.data.toList
theorem JM {a b:ByteArray} (h:L a=L b):a=b:=by
 cases a;cases b;simp only[L]at h;simp only[ByteArray.mk.injEq];exact AD8 h
theorem XW (s:ByteArray):(L s).length=s.size:=by cases s;rfl
theorem DO (a b:ByteArray):L (a++b)=L a++L b:=by simp[L]
theorem El (l:List UInt8):L (bs l)=l:=by simp[L,bs]
theorem Mm (l:List Int):L (Ff l)=l.map λn=>UInt8.ofNat n.toNat:=strOfNums_data l
theorem If (s:ByteArray) (i j:Nat):L (s.extract i j)=((L s).drop i).take (j-i):=by
 have:s=ByteArray.mk (L s).toArray:=by cases s;simp[L]
 simp[L]
theorem B5 (s:ByteArray):FL s=((L s).length:Int):=by rw[XW];rfl
variable {γ β S S' σ α β':Type} {i n r:Nat} {s:Int} {body':S'->Option (S'⊕β)} {b:List γ} {a:List γ} {c:List γ} {lt:γ->γ->Bool} {X:List γ}
theorem Fd (s:ByteArray) (h:i<(L s).length):sx s (i:Int)=some (((L s)[i]).toNat:Int):=by
 have h':i<s.size:=by rw[<-XW];exact h
 unfold sx;rw[AH ⟨by omega,by omega⟩];unfold AU.bt;rw[dif_pos<|by simpa using h'];rfl
theorem Fe {j:Nat} (s:ByteArray) (h1:i<=j) (h2:j<=(L s).length):sub s (i:Int) (j:Int)=some (s.extract i j):=by
 rw[XW]at h2;unfold sub
 grind
theorem FQ (a b:ByteArray) (h:(L a).length+(L b).length<=9223372036854775807):Ih a b=some (a++b):=by
 rw[XW,XW]at h;unfold Ih
 grind
theorem RV (a b:ByteArray):seq a b=decide (L a=L b):=by
 rw[JZ,G7,A5,A5];exact⟨λh=>by rw[h],JM⟩
def Cx (n:Nat):List UInt8:=if h:n<=127 then [UInt8.ofNat n]else UInt8.ofNat (n %128+128)::Cx (n/128)
termination_by n
decreasing_by omega
def Fu:List UInt8->Nat
 |[]=>0
 |d::ds=>d.toNat %128+128*Fu ds
theorem OU:∀(ds es:List UInt8),Fu (ds++es)=Fu ds+128^ds.length*Fu es
 |[],es=>by simp[Fu]
 |d::ds,es=>by
  simp only[BI,Fu,OU ds es,AA,vO]
  grind
theorem oH (d:UInt8):d.toNat<256:=d.toNat_lt
theorem Me (h:n<=127):Cx n=[UInt8.ofNat n]:=by rw[Cx,dif_pos h]
theorem Tn (h:¬n<=127):Cx n=UInt8.ofNat (n %128+128)::Cx (n/128):=by rw[Cx,dif_neg h]
theorem gH:∀{ds:List UInt8} {x:UInt8},Fu (ds++ [x])=0->x.toNat<128->x.toNat=0
 |[],x,h,hx=>by simp[Fu]at h;omega
 |d::ds,x,h,hx=>by
  simp only[BI,Fu]at h;exact gH (ds:=ds) (by omega) hx
theorem jH:∀(ds:List UInt8) (x:UInt8),(∀d∈ds,128<=d.toNat)->x.toNat<128->(Cx (Fu (ds++ [x]))=ds++ [x]↔¬(x.toNat=0/\ds≠ []))
 |[],x,_,hx=>by
  have:Fu ([]++ [x])=x.toNat:=by simp[Fu];omega
  rw[this,Me<|by omega];simp
 |d::ds,x,hd,hx=>by
  have ih:=jH ds x (λe he=>hd e<|Lz _ he) hx;have h1:=hd d DF;have h2:=oH d;have hv:Fu (d::ds++ [x])=d.toNat-128+128*Fu (ds++ [x]):=by
   simp only[BI,Fu];omega
  rw[hv];by_cases h0:Fu (ds++ [x])=0
  ·have a:=gH h0 hx;rw[h0,Me<|by omega];refine iff_of_false ?_ (by simp[a]);simp
  rw[Tn<|by omega];have e1:UInt8.ofNat ((d.toNat-128+128*Fu (ds++ [x])) %128+128)=d:=by
   have:(d.toNat-128+128*Fu (ds++ [x])) %128+128=d.toNat:=by omega
   rw[this,UInt8.ofNat_toNat]
  have e2:(d.toNat-128+128*Fu (ds++ [x]))/128=Fu (ds++ [x]):=by omega
  rw[e1,e2,BI,List.cons.injEq];rw[ih];constructor
  ·rintro⟨_,h⟩ ⟨h3,_⟩;refine h ⟨h3,?_⟩;rintro rfl;apply h0;simp[Fu,h3]
  grind
theorem rG:∀(n:Nat),(Cx n).length<=n+1
 |n=>by
  by_cases h:n<=127
  ·rw[Me h];simp
  have:=rG<|n/128;rw[Tn h,AA];omega
termination_by n=>n
decreasing_by omega
theorem jI {body:Int×List Int->Option ((Int×List Int)⊕(Int×List Int))} (hb:∀n a,body (n,a)=bif decide (n>127)then((ap 1 a [IntKind.u8.wrap (ad (Int.tmod n 128) 128)]).bind λc=>some (.inl (qu n 128,c)))else some (.inr (n,a))):
  ∀(n:Nat) (a:List Int),a.length+n<=1099511627776->∃(m:Nat) (o:List Int),Al body ((n:Int),a)=some ((m:Int),o)/\m<=127/\o.length<=a.length+n/\(o++ [(m:Int)]).map (λn=>UInt8.ofNat n.toNat)=a.map (λn=>UInt8.ofNat n.toNat)++Cx n
 |n,a,h=>by
  rw[Ax,hb];by_cases hn:n<=127
  ·rw[Af (by omega),Ad];exact⟨n,a,rfl,hn,by omega,by rw[Me hn];simp⟩
  rw[Ac (by omega),Ai,Bi (by grind),Aa];have e1:Int.tmod (n:Int) 128=((n %128:Nat):Int):=rfl;have e2:qu (n:Int) 128=((n/128:Nat):Int):=by
   unfold qu;rw[show Int.tdiv (n:Int) 128=((n/128:Nat):Int)from Int.ofNat_tdiv n 128|>.symm,OM (by omega)<|by omega]
  have e3:IntKind.u8.wrap (ad (Int.tmod (n:Int) 128) 128)=((n %128+128:Nat):Int):=by
   rw[e1,Cy (by omega) (by omega),IntKind.wrap_u8];omega
  obtain⟨m,o,h1,h2,h3,h4⟩:=jI hb (n/128) (a++ [((n %128+128:Nat):Int)]) (by grind);rw[e2,e3];refine⟨m,o,h1,h2,by grind,?_⟩;rw[h4,Tn hn,Cb,AG];rfl
termination_by n=>n
decreasing_by omega
theorem AFA (h0:0<=s) (h1:s<4294967296):IntKind.u32.wrap (Int.tdiv s 2)=Int.fdiv s (2^(min (1:Int).toNat IntKind.u32.bits)):=by
 have e:(2:Int)^(min (1:Int).toNat IntKind.u32.bits)=2:=by decide
 rw[e,IntKind.wrap_u32,Int.tdiv_eq_ediv_of_nonneg h0,Int.fdiv_eq_ediv_of_nonneg _<|by omega];omega
theorem an1 (h0:0<=s) (h1:s<4294967296):an s 1=Int.tmod s 2:=by
 unfold an;obtain⟨n,rfl⟩:=Cf h0;have:(BitVec.ofInt 32 (n:Int)&&&BitVec.ofInt 32 1).toNat=n %2:=by grind
 rw[this,IntKind.wrap_u32,Int.tmod_eq_emod_of_nonneg<|by omega];omega
theorem AEa (a b:Int):0<=xr a b/\xr a b<4294967296:=by
 unfold xr;rw[IntKind.wrap_u32];omega
theorem iX {body:S->Option (S⊕β)} (a:σ->Int->S) (mkS':σ->Int->S') (n:Nat) (c:Nat->σ->Prop) (Q:β->Prop) (h1:∀s i,i<n->c i s->(∃s',body (a s (i:Nat))=some (.inl (a s' ((i+1:Nat):Int)))/\body' (mkS' s (i:Nat))=some (.inl (mkS' s' ((i+1:Nat):Int)))/\c (i+1) s')\/∃b,body (a s (i:Nat))=some (.inr b)/\body' (mkS' s (i:Nat))=some (.inr b)/\Q b) (h2:∀s,c n s->∃b,body (a s (n:Nat))=some (.inr b)/\body' (mkS' s (n:Nat))=some (.inr b)/\Q b):∀(k i:Nat) (s:σ),i+k=n->c i s->∃b,Al body (a s (i:Nat))=some b/\Al body' (mkS' s (i:Nat))=some b/\Q b
 |0,i,s,hi,hs=>by
  have:i=n:=by omega
  subst this;obtain⟨b,h3,h4,h5⟩:=h2 s hs;exact⟨b,by rw[Ax,h3],by rw[Ax,h4],h5⟩
 |k+1,i,s,hi,hs=>by
  rcases h1 s i (by omega) hs with⟨s',h3,h4,h5⟩|⟨b,h3,h4,h5⟩
  ·obtain⟨b,h6,h7,h8⟩:=iX a mkS' n c Q h1 h2 k (i+1) s' (by omega) h5;exact⟨b,by rw[Ax,h3];exact h6,by rw[Ax,h4];exact h7,h8⟩
  exact⟨b,by rw[Ax,h3],by rw[Ax,h4],h5⟩
theorem MT {s:σ} {body:S->Option (S⊕β)} (a:σ->Int->S) (mkS':σ->Int->S') (n:Nat) (c:Nat->σ->Prop) (Q:β->Prop) (h1:∀s i,i<n->c i s->(∃s',body (a s (i:Nat))=some (.inl (a s' ((i+1:Nat):Int)))/\body' (mkS' s (i:Nat))=some (.inl (mkS' s' ((i+1:Nat):Int)))/\c (i+1) s')\/∃b,body (a s (i:Nat))=some (.inr b)/\body' (mkS' s (i:Nat))=some (.inr b)/\Q b) (h2:∀s,c n s->∃b,body (a s (n:Nat))=some (.inr b)/\body' (mkS' s (n:Nat))=some (.inr b)/\Q b) (hs:c 0 s):∃b,Al body (a s 0)=some b/\Al body' (mkS' s 0)=some b/\Q b:=
 iX a mkS' n c Q h1 h2 n 0 s (by omega) hs
theorem Xt {body:S->Option (S⊕β)} (φ:S->S') (h:∀s,body' (φ s)=(body s).map (Sum.map φ id)):∀(n:Nat) (s:S),QR body' n (φ s)=QR body n s
 |0,_=>rfl
 |n+1,s=>by
  simp only[QR,h]
  cases body s with
  |none=>rfl
  |some o=>
   cases o with
   |inl s'=>exact Xt φ h n s'
   |inr b=>rfl
theorem uF {body:S->Option (S⊕β)} (φ:S->S') (h:∀s,body' (φ s)=(body s).map (Sum.map φ id)) (s:S):Al body' (φ s)=Al body s:=by
 have b:∀a,Al body' (φ s)=some a↔Al body s=some a:=λa=>by
  rw[HP,HP];exact⟨λ⟨n,hn⟩=>⟨n,by rw[<-Xt φ h];exact hn⟩,λ⟨n,hn⟩=>⟨n,by rw[Xt φ h];exact hn⟩⟩
 cases hx:Al body s with
 |some a=>exact(b a).2 hx
 |none=>
  cases hy:Al body' (φ s)with
  |none=>rfl
  |some a=>grind
theorem Ve {body:S->Option (S⊕β)} (φ:S->S') (I:S->Prop) (h:∀s,I s->body' (φ s)=(body s).map (Sum.map φ id)) (hI:∀s s',I s->body s=some (.inl s')->I s'):∀(n:Nat) (s:S),I s->QR body' n (φ s)=QR body n s
 |0,_,_=>rfl
 |n+1,s,hs=>by
  simp only[QR,h s hs]
  cases hb:body s with
  |none=>rfl
  |some o=>
   cases o with
   |inl s'=>exact Ve φ I h hI n s' (hI s s' hs hb)
   |inr b=>rfl
theorem qE {body:S->Option (S⊕β)} (φ:S->S') (I:S->Prop) (h:∀s,I s->body' (φ s)=(body s).map (Sum.map φ id)) (hI:∀s s',I s->body s=some (.inl s')->I s') (s:S) (hs:I s):Al body' (φ s)=Al body s:=by
 have b:∀a,Al body' (φ s)=some a↔Al body s=some a:=λa=>by
  rw[HP,HP];exact⟨λ⟨n,hn⟩=>⟨n,by rw[<-Ve φ I h hI n s hs];exact hn⟩,λ⟨n,hn⟩=>⟨n,by rw[Ve φ I h hI n s hs];exact hn⟩⟩
 cases hx:Al body s with
 |some a=>exact(b a).2 hx
 |none=>
  cases hy:Al body' (φ s)with
  |none=>rfl
  |some a=>grind
theorem zV {s:S} {b:β} {body:S->Option (S⊕β)} (I:S->Prop) (Q:β->Prop) (hI:∀s s',I s->body s=some (.inl s')->I s') (hQ:∀s b,I s->body s=some (.inr b)->Q b) (hs:I s) (h:Al body s=some b):Q b:=by
 obtain⟨n,hn⟩:=HP.1 h;clear h
 induction n generalizing s with
 |zero=>cases hn
 |succ n ih=>
  simp only[QR]at hn
  grind
theorem bI {body':S'->Option (S'⊕β')} {body:S->Option (S⊕β)} (a:σ->Int->S) (mkS':σ->Int->S') (n:Nat) (c:Nat->σ->Prop) (Q:β->β'->Prop) (h1:∀s i,i<n->c i s->(∃s',body (a s (i:Nat))=some (.inl (a s' ((i+1:Nat):Int)))/\body' (mkS' s (i:Nat))=some (.inl (mkS' s' ((i+1:Nat):Int)))/\c (i+1) s')\/∃b b',body (a s (i:Nat))=some (.inr b)/\body' (mkS' s (i:Nat))=some (.inr b')/\Q b b') (h2:∀s,c n s->∃b b',body (a s (n:Nat))=some (.inr b)/\body' (mkS' s (n:Nat))=some (.inr b')/\Q b b'):∀(k i:Nat) (s:σ),i+k=n->c i s->∃b b',Al body (a s (i:Nat))=some b/\Al body' (mkS' s (i:Nat))=some b'/\Q b b'
 |0,i,s,hi,hs=>by
  have:i=n:=by omega
  subst this;obtain⟨b,b',h3,h4,h5⟩:=h2 s hs;exact⟨b,b',by rw[Ax,h3],by rw[Ax,h4],h5⟩
 |k+1,i,s,hi,hs=>by
  rcases h1 s i (by omega) hs with⟨s',h3,h4,h5⟩|⟨b,b',h3,h4,h5⟩
  ·obtain⟨b,b',h6,h7,h8⟩:=bI a mkS' n c Q h1 h2 k (i+1) s' (by omega) h5;exact⟨b,b',by rw[Ax,h3];exact h6,by rw[Ax,h4];exact h7,h8⟩
  exact⟨b,b',by rw[Ax,h3],by rw[Ax,h4],h5⟩
theorem iW {body':S'->Option (S'⊕β')} {s:σ} {body:S->Option (S⊕β)} (a:σ->Int->S) (mkS':σ->Int->S') (n:Nat) (c:Nat->σ->Prop) (Q:β->β'->Prop) (h1:∀s i,i<n->c i s->(∃s',body (a s (i:Nat))=some (.inl (a s' ((i+1:Nat):Int)))/\body' (mkS' s (i:Nat))=some (.inl (mkS' s' ((i+1:Nat):Int)))/\c (i+1) s')\/∃b b',body (a s (i:Nat))=some (.inr b)/\body' (mkS' s (i:Nat))=some (.inr b')/\Q b b') (h2:∀s,c n s->∃b b',body (a s (n:Nat))=some (.inr b)/\body' (mkS' s (n:Nat))=some (.inr b')/\Q b b') (hs:c 0 s):∃b b',Al body (a s 0)=some b/\Al body' (mkS' s 0)=some b'/\Q b b':=
 bI a mkS' n c Q h1 h2 n 0 s (by omega) hs
theorem TJ {body body':S->Option (S⊕β)} (m:S->Nat) (a:S->Prop) (Q:β->Prop) (h:∀s,a s->(∃s',body s=some (.inl s')/\body' s=some (.inl s')/\a s'/\m s'<m s)\/∃b,body s=some (.inr b)/\body' s=some (.inr b)/\Q b):∀(n:Nat) (s:S),m s<=n->a s->∃b,Al body s=some b/\Al body' s=some b/\Q b
 |n,s,hn,hs=>by
  rcases h s hs with⟨s',h1,h2,h3,h4⟩|⟨b,h1,h2,h3⟩
  ·cases n with
   |zero=>omega
   |succ n=>
    obtain⟨b,h5,h6,h7⟩:=TJ m a Q h n s' (by omega) h3;exact⟨b,by rw[Ax,h1];exact h5,by rw[Ax,h2];exact h6,h7⟩
  exact⟨b,by rw[Ax,h1],by rw[Ax,h2],h3⟩
theorem Sr (z:α->Nat):∀(l:List α) (i:Nat) (h:i<l.length),((l.take (i+1)).map z).sum=((l.take i).map z).sum+z l[i]
 |[],i,h=>by simp at h
 |x::l,0,h=>by simp
 |x::l,i+1,h=>by
  simp only[Nm,CL,Nu,List.getElem_cons_succ];rw[Sr z l i (by simpa using h)];omega
theorem OV (z:α->Nat) (l:List α) (i:Nat):((l.take i).map z).sum<=(l.map z).sum:=by
 have:(l.map z).sum=((l.take i).map z).sum+((l.drop i).map z).sum:=by
  rw[<-List.sum_append,<-Cb,BF]
 omega
theorem nB (a:List α) (x:α) (post:List α):gi (a++x::post) (a.length:Nat)=some x:=by
 rw[Au,Bt<|Ay _];simp
theorem kL (a:List α) (x y:α) (post:List α):si (a++x::post) (a.length:Nat) y=a++y::post:=by
 rw[DJ,List.set_append_right _ _<|Ay _];simp
noncomputable section
def DT (lt:γ->γ->Bool) (xA:Int) (xB:Int) (xN:Int) (a:Int) (b:List γ):Option ((Int×List γ)⊕(List γ)):=cond (decide<|a<xN) ((s8 b (ad xA a)<|ad xB a).bind λv1=>some<|.inl (ad a 1,v1))<|some<|.inr b
def CX (lt:γ->γ->Bool) (xL:List γ) (xA:Int) (xB:Int) (xN:Int):Option (List γ):=(Al (λs:Int×List γ=>DT lt xA xB xN s.1 s.2) (0,xL)).bind λv2=>some v2
def EZ (lt:γ->γ->Bool) (xM:Int) (a:Int) (b:Int) (c:List γ):Option ((Int×Int×List γ)⊕(Int×List γ)):=cond (a !=b) (cond (decide<|a>b) ((CX lt c (sb xM a) xM b).bind λv1=>some<|.inl (sb a b,b,v1))<|(CX lt c (sb xM a) (sb (ad xM b) a) a).bind λv2=>some<|.inl (a,sb b a,v2))<|some<|.inr (a,c)
def Fv (lt:γ->γ->Bool) (xL:List γ) (xA:Int) (xM:Int) (xB:Int):Option (List γ):=(Al (λs:Int×Int×List γ=>EZ lt xM s.1 s.2.1 s.2.2) (sb xM xA,sb xB xM,xL)).bind λv3=>(CX lt v3.2 (sb xM v3.1) xM v3.1).bind λv4=>some v4
def Bl (lt:γ->γ->Bool) (xA:Int) (a:Int) (b:List γ):Option ((Int×List γ)⊕(List γ)):=(cond (decide<|a>xA) ((gi2 b a<|sb a 1).bind λv1=>some<|lt v1.1 v1.2) (some false):Option Bool).bind λj1=>cond j1 ((s8 b a<|sb a 1).bind λv2=>some<|.inl (sb a 1,v2))<|some<|.inr b
def Bg (lt:γ->γ->Bool) (xA:Int) (xB:Int) (a:Int) (b:List γ):Option ((Int×List γ)⊕(List γ)):=cond (decide<|a<xB) ((Al (λs:Int×List γ=>Bl lt xA s.1 s.2) (a,b)).bind λv3=>some<|.inl (ad a 1,v3))<|some<|.inr b
def BU (lt:γ->γ->Bool) (xL:List γ) (xA:Int) (xB:Int):Option (List γ):=(Al (λs:Int×List γ=>Bg lt xA xB s.1 s.2) (ad xA 1,xL)).bind λv4=>some v4
def Eo (lt:γ->γ->Bool) (xL:List γ) (xA:Int) (a:Int) (b:Int):Option ((Int×Int)⊕Int):=cond (decide<|a<b) ((gi2 xL (IntKind.i64.wrap<|Int.fdiv (IntKind.u64.wrap<|ad a b)<|2^(min (1:Int).toNat IntKind.u64.bits)) xA).bind λv1=>cond (lt v1.1 v1.2) (some<|.inl (ad (IntKind.i64.wrap<|Int.fdiv (IntKind.u64.wrap<|ad a b)<|2^(min (1:Int).toNat IntKind.u64.bits)) 1,b))<|some<|.inl (a,IntKind.i64.wrap<|Int.fdiv (IntKind.u64.wrap<|ad a b)<|2^(min (1:Int).toNat IntKind.u64.bits)))<|some<|.inr a
def D6 (lt:γ->γ->Bool) (v2:Int) (a:Int) (b:List γ):Option ((Int×List γ)⊕(List γ)):=cond (decide<|a<(sb v2 1)) ((s8 b a<|ad a 1).bind λv3=>some<|.inl (ad a 1,v3))<|some<|.inr b
def En (lt:γ->γ->Bool) (xL:List γ) (xM:Int) (a:Int) (b:Int):Option ((Int×Int)⊕Int):=cond (decide<|a<b) ((gi2 xL xM<|IntKind.i64.wrap<|Int.fdiv (IntKind.u64.wrap<|ad a b)<|2^(min (1:Int).toNat IntKind.u64.bits)).bind λv5=>cond (!(lt v5.1 v5.2)) (some<|.inl (ad (IntKind.i64.wrap<|Int.fdiv (IntKind.u64.wrap<|ad a b)<|2^(min (1:Int).toNat IntKind.u64.bits)) 1,b))<|some<|.inl (a,IntKind.i64.wrap<|Int.fdiv (IntKind.u64.wrap<|ad a b)<|2^(min (1:Int).toNat IntKind.u64.bits)))<|some<|.inr a
def D5 (lt:γ->γ->Bool) (v6:Int) (a:Int) (b:List γ):Option ((Int×List γ)⊕(List γ)):=cond (decide<|a>v6) ((s8 b a<|sb a 1).bind λv7=>some<|.inl (sb a 1,v7))<|some<|.inr b
def Em (lt:γ->γ->Bool) (xL:List γ) (xA:Int) (xM:Int) (xB:Int) (a:Int) (b:Int):Option ((Int×Int)⊕Int):=cond (decide<|a<b) ((gi2 xL (sb (sb (ad (IntKind.i64.wrap<|Int.fdiv (IntKind.u64.wrap<|ad xA xB)<|2^(min (1:Int).toNat IntKind.u64.bits)) xM) 1)<|IntKind.i64.wrap<|Int.fdiv (IntKind.u64.wrap<|ad a b)<|2^(min (1:Int).toNat IntKind.u64.bits))<|IntKind.i64.wrap<|Int.fdiv (IntKind.u64.wrap<|ad a b)<|2^(min (1:Int).toNat IntKind.u64.bits)).bind λv9=>cond (!(lt v9.1 v9.2)) (some<|.inl (ad (IntKind.i64.wrap<|Int.fdiv (IntKind.u64.wrap<|ad a b)<|2^(min (1:Int).toNat IntKind.u64.bits)) 1,b))<|some<|.inl (a,IntKind.i64.wrap<|Int.fdiv (IntKind.u64.wrap<|ad a b)<|2^(min (1:Int).toNat IntKind.u64.bits)))<|some<|.inr a
def CA (lt:γ->γ->Bool):Nat->(List γ)->Int->Int->Int->Option (List γ)
 |0,_,_,_,_=>none
 |n+1,xL,xA,xM,xB=>cond ((sb xM xA)==1) ((Al (λs:Int×Int=>Eo lt xL xA s.1 s.2) (xM,xB)).bind λv2=>(Al (λs:Int×List γ=>D6 lt v2 s.1 s.2) (xA,xL)).bind λv4=>some v4) (cond ((sb xB xM)==1) ((Al (λs:Int×Int=>En lt xL xM s.1 s.2) (xA,xM)).bind λv6=>(Al (λs:Int×List γ=>D5 lt v6 s.1 s.2) (xM,xL)).bind λv8=>some v8) ((cond (decide (xM>(IntKind.i64.wrap (Int.fdiv (IntKind.u64.wrap (ad xA xB)) (2^(min (1:Int).toNat IntKind.u64.bits)))))) (some (sb (ad (IntKind.i64.wrap (Int.fdiv (IntKind.u64.wrap (ad xA xB)) (2^(min (1:Int).toNat IntKind.u64.bits)))) xM) xB,IntKind.i64.wrap (Int.fdiv (IntKind.u64.wrap (ad xA xB)) (2^(min (1:Int).toNat IntKind.u64.bits))))) (some (xA,xM)):Option (Int×Int)).bind λj1=>(Al (λs:Int×Int=>Em lt xL xA xM xB s.1 s.2) (j1.1,j1.2)).bind λv10=>(cond (decide (v10<xM)) (some (decide (xM<(sb (ad (IntKind.i64.wrap (Int.fdiv (IntKind.u64.wrap (ad xA xB)) (2^(min (1:Int).toNat IntKind.u64.bits)))) xM) v10)))) (some false):Option Bool).bind λj2=>(cond j2 ((Fv lt xL v10 xM (sb (ad (IntKind.i64.wrap (Int.fdiv (IntKind.u64.wrap (ad xA xB)) (2^(min (1:Int).toNat IntKind.u64.bits)))) xM) v10)).bind λv11=>some v11) (some xL):Option (List γ)).bind λj3=>(cond (decide (xA<v10)) (some (decide (v10<(IntKind.i64.wrap (Int.fdiv (IntKind.u64.wrap (ad xA xB)) (2^(min (1:Int).toNat IntKind.u64.bits))))))) (some false):Option Bool).bind λj4=>(cond j4 ((CA lt n j3 xA v10 (IntKind.i64.wrap (Int.fdiv (IntKind.u64.wrap (ad xA xB)) (2^(min (1:Int).toNat IntKind.u64.bits))))).bind λv12=>some v12) (some j3):Option (List γ)).bind λj5=>cond (decide ((IntKind.i64.wrap (Int.fdiv (IntKind.u64.wrap (ad xA xB)) (2^(min (1:Int).toNat IntKind.u64.bits))))<(sb (ad (IntKind.i64.wrap (Int.fdiv (IntKind.u64.wrap (ad xA xB)) (2^(min (1:Int).toNat IntKind.u64.bits)))) xM) v10))) (cond (decide ((sb (ad (IntKind.i64.wrap (Int.fdiv (IntKind.u64.wrap (ad xA xB)) (2^(min (1:Int).toNat IntKind.u64.bits)))) xM) v10)<xB)) ((CA lt n j5 (IntKind.i64.wrap (Int.fdiv (IntKind.u64.wrap (ad xA xB)) (2^(min (1:Int).toNat IntKind.u64.bits)))) (sb (ad (IntKind.i64.wrap (Int.fdiv (IntKind.u64.wrap (ad xA xB)) (2^(min (1:Int).toNat IntKind.u64.bits)))) xM) v10) xB).bind λv13=>some v13) (some j5)) (some j5)))
def CY (lt:γ->γ->Bool) (xN:Int) (b:Int) (a:Int) (c:List γ):Option ((Int×Int×List γ)⊕(Int×List γ)):=cond (decide<|a<=xN) ((BU lt c b a).bind λv1=>some<|.inl (a,ad a 20,v1))<|some<|.inr (b,c)
def Dw (lt:γ->γ->Bool) (xN:Int) (a:Int) (c:Int) (b:Int) (d:List γ):Option ((Int×Int×List γ)⊕(Int×List γ)):=cond (decide<|b<=xN) ((CA lt (List.length d+1) d c (ad c a) b).bind λv4=>some<|.inl (b,ad b<|ml 2 a,v4))<|some<|.inr (c,d)
def Dx (lt:γ->γ->Bool) (xN:Int) (a:Int) (b:List γ):Option ((Int×List γ)⊕(List γ)):=cond (decide<|a<xN) ((Al (λs:Int×Int×List γ=>Dw lt xN a s.1 s.2.1 s.2.2) (0,ml 2 a,b)).bind λv5=>cond (decide<|(ad v5.1 a)<xN) ((CA lt (List.length v5.2+1) v5.2 v5.1 (ad v5.1 a) xN).bind λv6=>some<|.inl (ml a 2,v6))<|some<|.inl (ml a 2,v5.2))<|some<|.inr b
def Dm (lt:γ->γ->Bool) (xL:List γ) (xN:Int):Option (List γ):=(Al (λs:Int×Int×List γ=>CY lt xN s.1 s.2.1 s.2.2) (0,20,xL)).bind λv2=>(BU lt v2.2 v2.1 xN).bind λv3=>(Al (λs:Int×List γ=>Dx lt xN s.1 s.2) (20,v3)).bind λv7=>some v7
def bH (xX:Int):Option Int:=(cond (decide<|xX>=4294967296) (some (Int.fdiv xX<|2^(min (32:Int).toNat IntKind.u64.bits),32)) (some (xX,0)):Option (Int×Int)).bind λj1=>(cond (decide<|j1.1>=65536) (some (Int.fdiv j1.1<|2^(min (16:Int).toNat IntKind.u64.bits),ad j1.2 16)) (some (j1.1,j1.2)):Option (Int×Int)).bind λj2=>(cond (decide<|j2.1>=256) (some (Int.fdiv j2.1<|2^(min (8:Int).toNat IntKind.u64.bits),ad j2.2 8)) (some (j2.1,j2.2)):Option (Int×Int)).bind λj3=>(sx (bs [0,1,2,2,3,3,3,3,4,4,4,4,4,4,4,4,5,5,5,5,5,5,5,5,5,5,5,5,5,5,5,5,6,6,6,6,6,6,6,6,6,6,6,6,6,6,6,6,6,6,6,6,6,6,6,6,6,6,6,6,6,6,6,6,7,7,7,7,7,7,7,7,7,7,7,7,7,7,7,7,7,7,7,7,7,7,7,7,7,7,7,7,7,7,7,7,7,7,7,7,7,7,7,7,7,7,7,7,7,7,7,7,7,7,7,7,7,7,7,7,7,7,7,7,7,7,7,7,8,8,8,8,8,8,8,8,8,8,8,8,8,8,8,8,8,8,8,8,8,8,8,8,8,8,8,8,8,8,8,8,8,8,8,8,8,8,8,8,8,8,8,8,8,8,8,8,8,8,8,8,8,8,8,8,8,8,8,8,8,8,8,8,8,8,8,8,8,8,8,8,8,8,8,8,8,8,8,8,8,8,8,8,8,8,8,8,8,8,8,8,8,8,8,8,8,8,8,8,8,8,8,8,8,8,8,8,8,8,8,8,8,8,8,8,8,8,8,8,8,8,8,8,8,8,8,8])<|IntKind.u8.wrap j3.1).bind λx1=>some<|ad j3.2<|IntKind.i64.wrap x1
def X1 (xX:Int):Option Int:=(bH xX).bind λv1=>some v1
def Gn (lt:γ->γ->Bool) (xL:List γ) (xA:Int) (xB:Int):Option (Unit⊕Unit⊕(List γ)):=cond (decide<|(sb xB xA)<=12) ((BU lt xL xA xB).bind λv1=>some<|.inr<|.inr v1) none
def ET (lt:γ->γ->Bool) (xL:List γ) (xA:Int) (xB:Int) (a:Int):Option (List γ):=(Al (λ_:Unit=>Gn lt xL xA xB) ()).bind<|Sum.elim (λv2=>some xL) some
def LB (lt:γ->γ->Bool) (l:List γ):Option (List γ):=(X1<|IntKind.u64.wrap<|ln l).bind λv=>ET lt l 0 (ln l) v
end
def srt (a:γ->Int) (l:List γ):Prop:=l.Pairwise λx y=>a x<=a y
section
variable (key:γ->Int)
def BV (l r:List γ):Prop:=∀k,r.filter (λx=>key x==k)=l.filter (λx=>key x==k)
end
theorem BV.refl (a:γ->Int) (l:List γ):BV a l l:=λ_=>rfl
theorem BV.trans (d:γ->Int) (h:BV d a b) (k:BV d b c):BV d a c:=λx=>(k x).trans<|h x
theorem GQ (e:γ->Int) {d:List γ} (h:BV e a b) (k:BV e c d):BV e (a++c) (b++d):=λx=>by rw[AR,AR,h,k]
section
variable (key:γ->Int)
theorem BV.mem {x:γ} (h:BV key a b):x∈b↔x∈a:=by
 have:=h<|key x;have e:x∈b.filter (λy=>key y==key x)↔x∈a.filter (λy=>key y==key x):=by rw[this]
 simpa using e
end
section
variable (key:γ->Int)
theorem BV.nil (h:BV key [] b):b=[]:=by
 cases b with
 |nil=>rfl
 |cons x b=>exact absurd ((h.mem (x:=x)).1 DF)<|by simp
end
section
variable (key:γ->Int)
theorem BV.swap (h:∀x∈a,∀y∈b,key y<key x):BV key (a++b) (b++a):=by
 intro k;rw[AR,AR];by_cases ha:a.filter (λx=>key x==k)=[]
 ·rw[ha];simp
 have hb:b.filter (λx=>key x==k)=[]:=by
  rw[Bq];intro y hy e;obtain⟨x,hx⟩:=List.exists_mem_of_ne_nil _ ha
  grind
 rw[hb];simp
end
theorem Vo (p:γ->Bool):∀l:List γ,l.length=(l.filter p).length+(l.filter λx=>!p x).length
 |[]=>rfl
 |x::l=>by
  have:=Vo p l
  grind
section
variable (key:γ->Int)
theorem BV.len:BV key a b->a.length=b.length:=by
 intro h;have:∀(n:Nat) (a b:List γ),a.length<=n->BV key a b->a.length=b.length:=by
  intro n
  induction n with
  |zero=>
   intro a b ha h;have:a=[]:=AD (by omega);subst this;rw[h.nil]
  |succ n ih=>
   intro a b ha h
   cases a with
   |nil=>rw[h.nil]
   |cons x a=>
    have hp:(x::a).length=((x::a).filter λy=>key y==key x).length+((x::a).filter λy=>!(key y==key x)).length:=by
     exact Vo _ _
    have c:b.length=(b.filter λy=>key y==key x).length+(b.filter λy=>!(key y==key x)).length:=by
     exact Vo _ _
    have h1:BV key ((x::a).filter λy=>!(key y==key x)) (b.filter λy=>!(key y==key x)):=by
     intro k;rw[Ep,Ep];by_cases hk:k=key x
     ·subst hk
      have z:∀l:List γ,l.filter (λy=>(key y==key x)&&!(key y==key x))=[]:=λl=>by simp
      rw[z,z]
     have z:∀l:List γ,l.filter (λy=>(key y==k)&&!(key y==key x))=l.filter (λy=>key y==k):=λl=>by grind
     rw[z,z];exact h k
    have h2:=ih _ _ (by grind) h1;rw[hp,c,h2,h<|key x]
 exact this a.length a b (Ay _) h
end
section
variable (key:γ->Int)
theorem Oj:∀{a b:List γ},srt key a->srt key b->BV key a b->a=b
 |[],b,_,_,h=>(h.nil key).symm
 |x::a,[],_,_,h=>by
  have:=h.len key;simp at this
 |x::a,y::b,ha,hb,h=>by
  have c:key x=key y:=by
   have h1:x∈y::b:=(h.mem key).2 DF;have h2:y∈x::a:=(h.mem key).1 DF;have k1:key y<=key x:=by
    rcases DI.1 h1 with rfl|h1
    ·exact Ju _
    exact(C0.1 hb).1 x h1
   have k2:key x<=key y:=by
    rcases DI.1 h2 with rfl|h2
    ·exact Ju _
    exact(C0.1 ha).1 y h2
   omega
  have e:=h<|key x;rw[Ev (by simp[c]),Ev<|by simp]at e
  injection e with e1 e2
  subst e1;have h':BV key a b:=by
   intro k;have:=h k
   grind
  rw[Oj (C0.1 ha).2 (C0.1 hb).2 h']
end
theorem Tf (P S:List γ) (x:γ):gi (P++x::S) (P.length:Nat)=some x:=by
 rw[Au,Bt<|Ay _];simp
theorem kM (P S:List γ) (x y:γ):si (P++x::S) (P.length:Nat) y=P++y::S:=by
 rw[DJ];simp
theorem wC (P M S:List γ) (x y:γ):s8 (P++x::(M++y::S)) (P.length:Nat) ((P.length+1+M.length:Nat):Int)=some (P++y::(M++x::S)):=by
 unfold s8;have e:P++x::(M++y::S)=(P++x::M)++y::S:=by simp
 have e2:P++y::(M++y::S)=(P++y::M)++y::S:=by simp
 have hl:(P.length+1+M.length)=(P++x::M).length:=by simp;omega
 have a:(P.length+1+M.length)=(P++y::M).length:=by simp;omega
 rw[Tf,Aa];have h2:gi (P++x::(M++y::S)) ((P.length+1+M.length:Nat):Int)=some y:=by rw[e,hl,Tf]
 rw[h2,Aa,kM,e2,a,kM];simp
theorem wD (P S:List γ) (x y:γ):s8 (P++x::y::S) ((P.length+1:Nat):Int) (P.length:Nat)=some (P++y::x::S):=by
 unfold s8;have e:P++x::y::S=(P++ [x])++y::S:=by simp
 have hl:(P.length+1)=(P++ [x]).length:=by simp
 have h1:gi (P++x::y::S) ((P.length+1:Nat):Int)=some y:=by rw[e,hl,Tf]
 rw[h1,Aa,Tf,Aa];have h3:si (P++x::y::S) ((P.length+1:Nat):Int) x=P++x::x::S:=by rw[e,hl,kM];simp
 rw[h3,kM]
theorem AAT (P S:List γ) (x y:γ):s8 (P++x::y::S) (P.length:Nat) ((P.length+1:Nat):Int)=some (P++y::x::S):=by
 have:=wC P [] S x y;simpa using this
theorem QE:∀(X Y P M S:List γ),X.length=Y.length->P.length+X.length+M.length+Y.length+S.length<=1152921504606846976->
  CX lt (P++X++M++Y++S) (P.length:Nat) ((P.length+X.length+M.length:Nat):Int) (X.length:Nat)=some (P++Y++M++X++S):=by
 have d:∀(n:Nat) (X Y P M S:List γ) (a b c i:Nat),X.length=n->Y.length=n->a+i=P.length->b+i=P.length+n+M.length->c=i+n->P.length+n+M.length+n+S.length<=1152921504606846976->
   Al (λs:Int×List γ=>DT lt (a:Int) (b:Int) (c:Int) s.1 s.2) ((i:Int),P++X++M++Y++S)=some (P++Y++M++X++S):=by
  intro n
  induction n with
  |zero=>
   intro X Y P M S a b c i hX hY h1 h2 h3 hN;have:=AD hX;subst this;have:=AD hY;subst this;rw[Ax];simp only[DT]
   grind
  |succ n ih=>
   intro X Y P M S a b c i hX hY h1 h2 h3 hN
   cases X with
   |nil=>simp at hX
   |cons x X=>
   cases Y with
   |nil=>simp at hY
   |cons y Y=>
   simp only[AA]at hX hY;have hs:s8 (P++(x::X)++M++(y::Y)++S) (ad (a:Int) (i:Int)) (ad (b:Int) (i:Int))=some (P++(y::X)++M++(x::Y)++S):=by
    have e1:ad (a:Int) (i:Int)=(P.length:Nat):=by rw[Cy (by omega)<|by omega];omega
    have e2:ad (b:Int) (i:Int)=((P.length+1+(X++M).length:Nat):Int):=by rw[Cy (by omega)<|by omega];simp only[Ak];omega
    have:=wC P (X++M) (Y++S) x y;rw[e1,e2];simpa using this
   rw[Ax];simp only[DT];rw[Ac (by omega:(i:Int)<c),Ai,hs,Aa,ad1<|by omega];have:=ih X Y (P++ [y]) (M++ [x]) S a b c (i+1) (by omega) (by omega) (by simp;omega) (by simp;omega) (by omega) (by simp;omega);simp only[AG,BI,A3,Fl]at this⊢;exact this
 intro X Y P M S e hN;unfold CX;have:=d X.length X Y P M S P.length (P.length+X.length+M.length) X.length 0 rfl e.symm (by omega) (by omega) (by omega) (by omega);rw[show((0:Nat):Int)=0 from rfl]at this;rw[this];rfl
theorem zH (P A B S:List γ) (hA:A≠ []) (hB:B≠ []) (hN:P.length+A.length+B.length+S.length<=1152921504606846976):
  Fv lt (P++A++B++S) (P.length:Nat) ((P.length+A.length:Nat):Int) ((P.length+A.length+B.length:Nat):Int)=some (P++B++A++S):=by
 have g:∀(m:Nat) (Bd:Int×Int×List γ->Option ((Int×Int×List γ)⊕(Int×List γ))) (d:∀i j l,Bd (i,j,l)=EZ lt (m:Int) i j l) (k:Nat) (P U V S:List γ),U.length+V.length<=k->U≠ []->V≠ []->P.length+U.length=m->P.length+U.length+V.length+S.length<=1152921504606846976->
   ((
    Al Bd ((U.length:Int),(V.length:Int),P++U++V++S)).bind λv3=>
    (CX lt v3.2 (sb (m:Int) v3.1) (m:Int) v3.1).bind λv4=>some v4)=some (P++V++U++S):=by
  intro m Bd d k
  induction k with
  |zero=>
   intro P U V S hk hU;exact absurd (AD<|by omega) hU
  |succ k ih=>
   intro P U V S hk hU hV hm hN;have lU:=Nn.2 hU;have lV:=Nn.2 hV;rw[Ax];simp only[d,EZ];have c:sb (m:Int) (U.length:Int)=(P.length:Nat):=by rw[Co (by omega)<|by omega];omega
   by_cases f:U.length=V.length
   ·have e:((U.length:Int) !=(V.length:Int))=false:=by simp[f]
    rw[e,Ad];simp only[Aa];rw[c];have:=QE (lt:=lt) U V P [] S f (by simp;omega);simp only[AC,Ek,OQ]at this;rw[hm]at this;rw[this];rfl
   have e:((U.length:Int) !=(V.length:Int))=true:=by simp;omega
   rw[e,Ai];by_cases n:U.length>V.length
   ·rw[Ac (by omega:(U.length:Int)>V.length),Ai,c];have h:U=U.take V.length++U.drop V.length:=(BF _ _).symm;have b:(U.take V.length).length=V.length:=by simp;omega
    have a:(U.drop V.length).length=U.length-V.length:=by simp
    have:=QE (lt:=lt) (U.take V.length) V P (U.drop V.length) S b (by rw[b,a];omega);rw[b,a,show P.length+V.length+(U.length-V.length)=m by omega]at this;have e3:P++U++V++S=P++U.take V.length++U.drop V.length++V++S:=by grind
    have e4:sb (U.length:Int) (V.length:Int)=((U.drop V.length).length:Int):=by rw[Co (by omega) (by omega),a];omega
    have:=ih (P++V) (U.drop V.length) (U.take V.length) S (by rw[b,a];omega) (by grind) (by grind) (by grind)<|by grind
    grind
   rw[Af (by omega:¬(U.length:Int)>V.length),Ad,c];have b:(V.take<|V.length-U.length).length=V.length-U.length:=by simp
   have a:(V.drop<|V.length-U.length).length=U.length:=by simp;omega
   have:=QE (lt:=lt) U (V.drop<|V.length-U.length) P (V.take<|V.length-U.length) S a.symm (by rw[b,a];omega);rw[b]at this;have e2:sb (ad (m:Int) (V.length:Int)) (U.length:Int)=((P.length+U.length+(V.length-U.length):Nat):Int):=by rw[Cy (by omega) (by omega),Co (by omega)<|by omega];omega
   have e3:P++U++V++S=P++U++V.take (V.length-U.length)++V.drop (V.length-U.length)++S:=by simp
   rw[e2,e3,this,Aa];have e4:sb (V.length:Int) (U.length:Int)=((V.take<|V.length-U.length).length:Int):=by rw[Co (by omega) (by omega),b];omega
   have:=ih P (V.drop<|V.length-U.length) (V.take<|V.length-U.length) (U++S) (by rw[b,a];omega) (by grind) (by grind) (by rw[a];omega) (by grind);rw[a]at this;rw[e4];simp only[AG]at this⊢;rw[this];rw[show V.take (V.length-U.length)++(V.drop (V.length-U.length)++(U++S))=V++(U++S) by rw[<-AG,BF]]
 have h1:sb ((P.length+A.length:Nat):Int) (P.length:Nat)=(A.length:Int):=by rw[Co (by omega)<|by omega];omega
 have h2:sb ((P.length+A.length+B.length:Nat):Int) ((P.length+A.length:Nat):Int)=(B.length:Int):=by rw[Co (by omega)<|by omega];omega
 unfold Fv;rw[h1,h2];exact g (P.length+A.length) (λs=>EZ lt ((P.length+A.length:Nat):Int) s.1 s.2.1 s.2.2) (λ_ _ _=>rfl) _ P A B S (Ay _) hA hB rfl hN
def NW (a:γ->Int) (x y:γ):Bool:=decide<|a x<a y
theorem z8 (a:γ->Int) (P S:List γ) (y:γ) (B:Int×List γ->Option ((Int×List γ)⊕(List γ))) (hB:∀j l,B (j,l)=Bl (NW a) (P.length:Nat) j l):∀(n:Nat) (U V:List γ),U.length=n->srt a U->P.length+U.length+V.length+S.length<=1152921504606846976->
  ∃U1 U2,U=U1++U2/\Al B (((P.length+U.length:Nat):Int),P++U++y::(V++S))=some (P++U1++y::(U2++V++S))/\(∀v∈U2,a y<a v)/\∀u∈U1,a u<=a y:=by
 intro n
 induction n with
 |zero=>
  intro U V hU _ hN;have:=AD hU;subst this;refine⟨[],[],rfl,?_,by simp,by simp⟩;rw[Ax,hB];simp only[Bl]
  grind
 |succ n ih=>
  intro U V hU hs hN
  rcases Ht U with rfl|⟨U0,z,rfl⟩
  ·simp at hU
  rw[K6]at hU hs hN⊢;simp only[Ak,B7]at hU hN;have hl:P.length+(U0++ [z]).length=(P++U0).length+1:=by simp;omega
  have e0:P++(U0++ [z])++y::(V++S)=(P++U0)++z::y::(V++S):=by simp
  have ej:sb (((P++U0).length+1:Nat):Int) 1=((P++U0).length:Nat):=by rw[Co (by omega)<|by grind];omega
  have g1:gi ((P++U0)++z::y::(V++S)) (((P++U0).length+1:Nat):Int)=some y:=by
   have e:(P++U0)++z::y::(V++S)=((P++U0)++ [z])++y::(V++S):=by simp
   have hl':(P++U0).length+1=((P++U0)++ [z]).length:=by grind
   rw[e,hl',Tf]
  have g2:gi2 ((P++U0)++z::y::(V++S)) (((P++U0).length+1:Nat):Int) ((P++U0).length:Nat)=some (y,z):=by
   unfold gi2;rw[g1,Aa,Tf];rfl
  by_cases b:a y<a z
  ·obtain⟨U1,U2,h1,h2,h3,h4⟩:=ih U0 (z::V) (by omega) (AQ.1 hs).1 (by grind);refine⟨U1,U2++ [z],by rw[h1];simp,?_,?_,h4⟩
   ·rw[Ax,hB];simp only[Bl];rw[hl,e0,Ac (by grind:(((P++U0).length+1:Nat):Int)>(P.length:Nat)),Ai,ej,g2];simp only[Aa,NW];rw[Ac b,Ai,wD,Aa];simp only;have:P++U0++y::z::(V++S)=P++U0++y::(z::V++S):=by simp
    rw[this,show(P++U0).length=P.length+U0.length from Ak,h2];simp
   grind
  refine⟨U0++ [z],[],by simp,?_,by simp,?_⟩
  ·rw[Ax,hB];simp only[Bl];simp only[Aa,NW]
   grind
  intro u hu
  rcases Ao.1 hu with hu|hu
  ·have:=(AQ.1 hs).2.2 u hu z (by simp);omega
  grind
section
variable (key:γ->Int)
theorem Ji (P X S:List γ) (hN:P.length+X.length+S.length<=1152921504606846976):
  ∃X',BU (NW key) (P++X++S) (P.length:Nat) ((P.length+X.length:Nat):Int)=some (P++X'++S)/\srt key X'/\BV key X X':=by
 have main:∀(b:Nat) (B:Int×List γ->Option ((Int×List γ)⊕(List γ))),(∀i l,B (i,l)=Bg (NW key) (P.length:Nat) (b:Int) i l)->∀(n:Nat) (U V:List γ),V.length=n->P.length+U.length+V.length=b->srt key U->b+S.length<=1152921504606846976->
   ∃X',Al B (((P.length+U.length:Nat):Int),P++U++V++S)=some (P++X'++S)/\srt key X'/\BV key (U++V) X':=by
  intro b B hB n
  induction n with
  |zero=>
   intro U V hV hb hs hN;have:=AD hV;subst this;refine⟨U,?_,hs,by rw[AC];exact BV.refl key U⟩;rw[Ax,hB];simp only[Bg]
   grind
  |succ n ih=>
   intro U V hV hb hs hN
   cases V with
   |nil=>simp at hV
   |cons y V=>
    simp only[AA]at hV hb;obtain⟨U1,U2,h1,h2,h3,h4⟩:=z8 key P (V++S) y (λs=>Bl (NW key) (P.length:Nat) s.1 s.2) (λ_ _=>rfl) U.length U [] rfl hs (by simp only[Ak,Ek];omega);have hs':srt key (U1++y::U2):=by
     rw[h1]at hs;obtain⟨q1,q2,q3⟩:=AQ.1 hs;refine AQ.2 ⟨q1,C0.2 ⟨λv hv=>vS<|h3 v hv,q2⟩,λu hu v hv=>?_⟩
     grind
    have hk:BV key (U++ [y]) (U1++y::U2):=by
     rw[h1,AG];have:=BV.swap key (a:=U2) (b:=[y]) (λx hx z hz=>by simp at hz;grind);exact GQ key (BV.refl key U1) this
    have c:(U1++y::U2).length=U.length+1:=by rw[h1];simp;omega
    obtain⟨X',r1,r2,r3⟩:=ih (U1++y::U2) V (by omega) (by rw[c];omega) hs' hN;refine⟨X',?_,r2,?_⟩
    ·rw[Ax,hB];simp only[Bg];rw[Ac (by omega:((P.length+U.length:Nat):Int)<(b:Int)),Ai];have e:P++U++y::V++S=P++U++y::([]++(V++S)):=by simp
     rw[e,h2,Aa,ad1<|by omega];simp only;rw[show P.length+U.length+1=P.length+(U1++y::U2).length by rw[c];omega];have e2:P++U1++y::(U2++ []++(V++S))=P++(U1++y::U2)++V++S:=by simp
     rw[e2,r1]
    refine BV.trans key ?_ r3;have e3:U++y::V=(U++ [y])++V:=by simp
    rw[e3];exact GQ key hk<|BV.refl key V
 unfold BU;rw[ad1<|by omega]
 cases X with
 |nil=>
  refine⟨[],?_,List.Pairwise.nil,BV.refl key _⟩;rw[Ax];simp only[Bg]
  grind
 |cons x X=>
  obtain⟨X',h1,h2,h3⟩:=main (P.length+(x::X).length) (λs=>Bg (NW key) (P.length:Nat) ((P.length+(x::X).length:Nat):Int) s.1 s.2) (λ_ _=>rfl) X.length [x] X rfl (by simp;omega) (Jq _ _)<|by omega
  grind
end
def fD (i j:Int):Int:=IntKind.i64.wrap<|Int.fdiv (IntKind.u64.wrap<|ad i j)<|2^(min (1:Int).toNat IntKind.u64.bits)
theorem mD (i j:Nat) (h:i+j<=4611686018427387904):fD (i:Int) (j:Int)=(((i+j)/2:Nat):Int):=by
 unfold fD;rw[Cy (by omega)<|by omega];have e1:IntKind.u64.wrap ((i:Int)+(j:Int))=((i+j:Nat):Int):=by
  have:IntKind.u64.wrap ((i:Int)+(j:Int))=((i:Int)+(j:Int)) %18446744073709551616:=by rfl
  rw[this];omega
 have e2:(2:Int)^(min (1:Int).toNat IntKind.u64.bits)=2:=by decide
 rw[e1,e2,Int.fdiv_eq_ediv_of_nonneg _ (by omega),OM (by omega)<|by omega];omega
theorem nL {B:Int×Int->Option ((Int×Int)⊕Int)} (p:Nat->Bool) (lo hi:Nat) (h1:∀i j:Nat,lo<=i->i<j->j<=hi->B ((i:Int),(j:Int))=some (.inl (cond (p ((i+j)/2)) ((((i+j)/2+1:Nat):Int),(j:Int)) ((i:Int),(((i+j)/2:Nat):Int))))) (h2:∀i:Nat,B ((i:Int),(i:Int))=some (.inr (i:Int))):
  ∀(n i j:Nat),j-i<=n->lo<=i->i<=j->j<=hi->(lo<i->p (i-1)=true)->(j<hi->p j=false)->∃r:Nat,Al B ((i:Int),(j:Int))=some (r:Int)/\lo<=r/\r<=hi/\(lo<r->p (r-1)=true)/\(r<hi->p r=false):=by
 intro n
 induction n with
 |zero=>
  intro i j hn hl a hh k1 k2;have:i=j:=by omega
  subst this;exact⟨i,by rw[Ax,h2],hl,hh,k1,k2⟩
 |succ n ih=>
  intro i j hn hl a hh k1 k2;by_cases he:i=j
  ·subst he;exact⟨i,by rw[Ax,h2],hl,hh,k1,k2⟩
  rw[Ax,h1 i j hl (by omega) hh]
  cases hp:p ((i+j)/2)with
  |true=>
   exact ih ((i+j)/2+1) j (by omega) (by omega) (by omega) hh (λ_=>by grind) k2
  |false=>
   exact ih i ((i+j)/2) (by omega) hl (by omega) (by omega) k1 λ_=>hp
theorem nC (P X T:List γ) (k:Nat) (hk:k<X.length):gi (P++X++T) ((P.length+k:Nat):Int)=some X[k]:=by
 rw[Au,AG,Bt (by omega),Nat.add_sub_cancel_left,BP hk,Ab hk]
theorem VT (a:γ->Int) (h:srt a X) (h0:0<r) (hr:r<=X.length):∀u∈X.take r,a u<=a (X[r-1]'(by omega)):=by
 intro u hu;obtain⟨i,hi,e⟩:=A4 hu;rw[K9]at e;simp only[B4]at hi;rw[<-e];by_cases b:i=r-1
 ·grind
 exact CF.1 h i (r-1) (by omega) (by omega)<|by omega
theorem VU (a:γ->Int) (h:srt a X) (hr:r<X.length):∀v∈X.drop r,a X[r]<=a v:=by
 intro v hv;obtain⟨i,hi,e⟩:=A4 hv;rw[VB]at e;simp only[Dq]at hi;rw[<-e];by_cases b:i=0
 ·subst b;simp
 exact CF.1 h r (r+i) (by omega) (by omega)<|by omega
theorem ABg (a:γ->Int) (S:List γ) (x:γ) (v2:Nat) (B:Int×List γ->Option ((Int×List γ)⊕(List γ))) (hB:∀k l,B (k,l)=D6 (NW a) (v2:Int) k l):∀(Y P:List γ),P.length+Y.length+1=v2->v2<=1152921504606846976->
  Al B ((P.length:Int),P++x::(Y++S))=some (P++Y++x::S):=by
 intro Y
 induction Y with
 |nil=>
  intro P h hN;rw[Ax,hB];simp only[D6];simp only[Ek]at h;rw[Co (by omega) (by omega),Af (by omega:¬(P.length:Int)<(v2:Int)-1)];simp
 |cons y Y ih=>
  intro P h hN;simp only[AA]at h;rw[Ax,hB];simp only[D6];rw[Co (by omega) (by omega),Ac (by omega:(P.length:Int)<(v2:Int)-1),Ai,ad1 (by omega),BI,AAT,Aa];simp only;have:=ih (P++ [y]) (by simp;omega) hN;simp only[Ak,B7,AG,Fl]at this;rw[this];simp
theorem ADv (a:γ->Int) (P S:List γ) (y:γ) (B:Int×List γ->Option ((Int×List γ)⊕(List γ))) (hB:∀k l,B (k,l)=D5 (NW a) (P.length:Int) k l):∀(n:Nat) (X S:List γ),X.length=n->P.length+X.length<=1152921504606846976->
  Al B (((P.length+X.length:Nat):Int),P++X++y::S)=some (P++y::(X++S)):=by
 intro n
 induction n with
 |zero=>
  intro X S hX hN;have:=AD hX;subst this;rw[Ax,hB];simp only[D5]
  grind
 |succ n ih=>
  intro X S hX hN
  rcases Ht X with rfl|⟨X0,z,rfl⟩
  ·simp at hX
  rw[K6]at hX hN⊢;simp only[Ak,B7]at hX hN;have hl:P.length+(X0++ [z]).length=(P++X0).length+1:=by simp;omega
  have e0:P++(X0++ [z])++y::S=(P++X0)++z::y::S:=by simp
  have ej:sb (((P++X0).length+1:Nat):Int) 1=((P++X0).length:Nat):=by rw[Co (by omega)<|by grind];omega
  rw[Ax,hB];simp only[D5];rw[hl,e0,Ac (by grind:(((P++X0).length+1:Nat):Int)>(P.length:Int)),Ai,ej,wD,Aa];simp only;rw[show(P++X0).length=P.length+X0.length from Ak,ih X0 (z::S) (by omega)<|by omega];simp
section
variable (key:γ->Int)
set_option maxHeartbeats 1000000 in
theorem XY:∀(n:Nat) (P X Y S:List γ),X≠ []->Y≠ []->srt key X->srt key Y->X.length+Y.length<=n->P.length+X.length+Y.length+S.length<=1152921504606846976->
  ∃Z,CA (NW key) n (P++X++Y++S) (P.length:Nat) ((P.length+X.length:Nat):Int) ((P.length+X.length+Y.length:Nat):Int)=some (P++Z++S)/\srt key Z/\BV key (X++Y) Z:=by
 intro n
 induction n with
 |zero=>
  intro P X Y S hX hY _ _ hn _;exact absurd (AD<|by omega) hX
 |succ n ih=>
  intro P X Y S hX hY sX sY hn hN;have lX:=Nn.2 hX;have lY:=Nn.2 hY;have eXA:sb ((P.length+X.length:Nat):Int) (P.length:Nat)=(X.length:Int):=by rw[Co (by omega)<|by omega];omega
  have eYB:sb ((P.length+X.length+Y.length:Nat):Int) ((P.length+X.length:Nat):Int)=(Y.length:Int):=by rw[Co (by omega)<|by omega];omega
  rw[CA,eXA,eYB];by_cases h9:X.length=1
  ·obtain⟨x,rfl⟩:=List.length_eq_one_iff.1 h9;have:(((([x]:List γ).length:Nat):Int)==1)=true:=rfl;simp only[B7]at hn hN⊢;obtain⟨r,r1,r2,r3,r4,r5⟩:=nL (B:=λs:Int×Int=>Eo (NW key) (P++ [x]++Y++S) (P.length:Nat) s.1 s.2) (λc=>match Y[c-(P.length+1)]? with|some y=>decide (key y<key x)|none=>false) (P.length+1) (P.length+1+Y.length)
    (λi j hi t hj=>by
     simp only[Eo];rw[Ac (by omega:(i:Int)<j),Ai];have hm:fD (i:Int) (j:Int)=(((i+j)/2:Nat):Int):=mD i j (by omega);unfold fD at hm;rw[hm];have hk:(i+j)/2-(P.length+1)<Y.length:=by omega
     have g1:gi (P++ [x]++Y++S) (((i+j)/2:Nat):Int)=some Y[(i+j)/2-(P.length+1)]:=by
      have:=nC (P++ [x]) Y S ((i+j)/2-(P.length+1)) hk;rw[show(P++ [x]).length+((i+j)/2-(P.length+1))=(i+j)/2 by simp;omega]at this;exact this
     have g2:gi (P++ [x]++Y++S) (P.length:Nat)=some x:=by
      have:=Tf P (Y++S) x;simpa using this
     unfold gi2;rw[g1,Aa,g2,Aa,Aa,Ab hk];simp only[NW];cases decide (key Y[(i+j)/2-(P.length+1)]<key x)
     ·rfl
     simp only[Ai];rw[ad1<|by omega])
    (λi=>by
     simp only[Eo]
     grind)
    (Y.length) (P.length+1) (P.length+1+Y.length) (by omega) (Ay _) (by omega) (Ay _) (λh=>absurd h<|by omega) (λh=>absurd h<|by omega)
   rw[r1,Aa];have f:Y.take (r-(P.length+1))++Y.drop (r-(P.length+1))=Y:=BF _ _;have b1:(Y.take<|r-(P.length+1)).length=r-(P.length+1):=by simp;omega
   have a0:∀y∈Y.take (r-(P.length+1)),key y<key x:=by
    intro y hy;have h0:0<r-(P.length+1):=by
     rcases Ux (r-(P.length+1))with e|e
     ·rw[e]at hy;simp at hy
     exact e
    have:=VT key sY h0 (by omega) y hy;have hp:=r4 (by omega);rw[show r-1-(P.length+1)=r-(P.length+1)-1 by omega,Ab<|by omega]at hp
    grind
   have a1:∀y∈Y.drop (r-(P.length+1)),key x<=key y:=by
    intro y hy;have h0:r-(P.length+1)<Y.length:=by
     rcases Ei (r-(P.length+1)) Y.length with e|e
     ·exact e
     rw[ER e]at hy;simp at hy
    have:=VU key sY h0 y hy;have hp:=r5<|by omega
    grind
   have hm:=ABg key (Y.drop (r-(P.length+1))++S) x r (λs=>D6 (NW key) (r:Int) s.1 s.2) (λ_ _=>rfl) (Y.take<|r-(P.length+1)) P (by omega) (by omega);have e:P++ [x]++Y++S=P++x::(Y.take (r-(P.length+1))++(Y.drop (r-(P.length+1))++S)):=by
    rw[<-AG (Y.take _),f];simp
   rw[e,hm,Aa];refine⟨Y.take (r-(P.length+1))++x::Y.drop (r-(P.length+1)),by simp,?_,?_⟩
   ·have sY':=sY;rw[<-f]at sY';obtain⟨q1,q2,q3⟩:=AQ.1 sY';refine AQ.2 ⟨q1,C0.2 ⟨a1,q2⟩,λu hu v hv=>?_⟩
    rcases DI.1 hv with rfl|hv
    ·exact vS<|a0 u hu
    exact q3 u hu v hv
   have:=BV.swap key (a:=[x]) (b:=Y.take<|r-(P.length+1)) (λu hu y hy=>by simp at hu;grind);have:=GQ key this<|BV.refl key<|Y.drop<|r-(P.length+1);rw[AG,f,AG]at this;exact this
  have:((X.length:Int)==1)=false:=by grind
  rw[this,Ad];by_cases f:Y.length=1
  ·obtain⟨y,rfl⟩:=List.length_eq_one_iff.1 f;have:(((([y]:List γ).length:Nat):Int)==1)=true:=rfl;have gY:gi (P++X++ [y]++S) ((P.length+X.length:Nat):Int)=some y:=by
    have:=Tf (P++X) S y
    grind
   obtain⟨r,r1,r2,r3,r4,r5⟩:=nL (B:=λs:Int×Int=>En (NW key) (P++X++ [y]++S) ((P.length+X.length:Nat):Int) s.1 s.2) (λc=>match X[c-P.length]? with|some x=>!decide (key y<key x)|none=>false) P.length (P.length+X.length)
    (λi j hi t hj=>by
     simp only[En];rw[Ac (by omega:(i:Int)<j),Ai];have hm:fD (i:Int) (j:Int)=(((i+j)/2:Nat):Int):=mD i j (by omega);unfold fD at hm;rw[hm];have hk:(i+j)/2-P.length<X.length:=by omega
     have g1:gi (P++X++ [y]++S) (((i+j)/2:Nat):Int)=some X[(i+j)/2-P.length]:=by
      have:=nC P X ([y]++S) ((i+j)/2-P.length) hk
      grind
     unfold gi2;rw[gY,Aa,g1,Aa,Aa,Ab hk];simp only[NW];cases decide (key y<key X[(i+j)/2-P.length])
     ·simp only[Cj,Ai];rw[ad1<|by omega]
     rfl)
    (λi=>by
     simp only[En]
     grind)
    (X.length) P.length (P.length+X.length) (by omega) (Ay _) (by omega) (Ay _) (λh=>absurd h<|by omega) (λh=>absurd h<|by omega)
   rw[r1,Aa];have hX1':X.take (r-P.length)++X.drop (r-P.length)=X:=BF _ _;have w:(X.drop<|r-P.length).length=X.length-(r-P.length):=by simp
   have a2:∀x∈X.take (r-P.length),key x<=key y:=by
    intro x hx;have h0:0<r-P.length:=by grind
    have:=VT key sX h0 (by omega) x hx;have hp:=r4 (by omega);rw[show r-1-P.length=r-P.length-1 by omega,Ab<|by omega]at hp
    grind
   have z:∀x∈X.drop (r-P.length),key y<key x:=by
    intro x hx;have h0:r-P.length<X.length:=by grind
    have:=VU key sX h0 x hx;have hp:=r5<|by omega
    grind
   have l:(P++X.take (r-P.length)).length=r:=by grind
   have hm:=ADv key (P++X.take (r-P.length)) S y (λs=>D5 (NW key) (r:Int) s.1 s.2) (λ_ _=>by rw[l]) (X.drop<|r-P.length).length (X.drop<|r-P.length) S rfl (by rw[l,w];omega);have e:P++X++ [y]++S=P++X.take (r-P.length)++X.drop (r-P.length)++y::S:=by simp
   rw[l,w,show r+(X.length-(r-P.length))=P.length+X.length by omega]at hm;rw[e,hm,Aa];refine⟨X.take (r-P.length)++y::X.drop (r-P.length),by simp,?_,?_⟩
   ·have sX':=sX;rw[<-hX1']at sX';obtain⟨q1,q2,q3⟩:=AQ.1 sX';refine AQ.2 ⟨q1,C0.2 ⟨λv hv=>vS<|z v hv,q2⟩,λu hu v hv=>?_⟩
    rcases DI.1 hv with rfl|hv
    ·exact a2 u hu
    exact q3 u hu v hv
   have:=BV.swap key (a:=X.drop<|r-P.length) (b:=[y]) (λu hu v hv=>by simp at hv;grind);have:=GQ key (BV.refl key<|X.take<|r-P.length) this
   grind
  have:((Y.length:Int)==1)=false:=by grind
  rw[this,Ad];have g:fD (P.length:Nat) ((P.length+X.length+Y.length:Nat):Int)=(((P.length+(P.length+X.length+Y.length))/2:Nat):Int):=mD _ _ (by omega);unfold fD at g;rw[g];obtain⟨mid,h1⟩:∃mid,mid=(P.length+(P.length+X.length+Y.length))/2:=⟨_,rfl⟩;rw[<-h1];have en:ad (mid:Int) ((P.length+X.length:Nat):Int)=((mid+(P.length+X.length):Nat):Int):=by rw[Cy (by omega)<|by omega];omega
  rw[en];obtain⟨lo,hi,a3,b2,b3,m,h8⟩:∃lo hi:Nat,((cond (decide<|((P.length+X.length:Nat):Int)>(mid:Int)) (some (sb ((mid+(P.length+X.length):Nat):Int) ((P.length+X.length+Y.length:Nat):Int),(mid:Int))) (some (((P.length:Nat):Int),((P.length+X.length:Nat):Int))):Option (Int×Int))=some ((lo:Int),(hi:Int)))/\
    P.length<=lo/\hi<=P.length+X.length/\lo<=hi/\(P.length+X.length>mid/\lo=mid+(P.length+X.length)-(P.length+X.length+Y.length)/\hi=mid\/P.length+X.length<=mid/\lo=P.length/\hi=P.length+X.length):=by
   by_cases z:P.length+X.length>mid
   ·rw[Ac (by omega),Ai,Co (by omega)<|by omega]
    grind
   exact⟨P.length,P.length+X.length,by grind,by omega,by omega,by omega,.inr ⟨by omega,rfl,rfl⟩⟩
  rw[a3,Aa];simp only;have a4:sb ((mid+(P.length+X.length):Nat):Int) 1=((mid+(P.length+X.length)-1:Nat):Int):=by rw[Co (by omega)<|by omega];omega
  obtain⟨r,r1,r2,r3,r4,r5⟩:=nL (B:=λs:Int×Int=>Em (NW key) (P++X++Y++S) (P.length:Nat) ((P.length+X.length:Nat):Int) ((P.length+X.length+Y.length:Nat):Int) s.1 s.2)
   (λc=>match Y[mid+(P.length+X.length)-1-c-(P.length+X.length)]?,X[c-P.length]? with|some y,some x=>!decide (key y<key x)|_,_=>false) lo hi
   (λi j hi' t hj=>by
    simp only[Em];rw[Ac (by omega:(i:Int)<j),Ai,g,<-h1,en,a4];have hm:fD (i:Int) (j:Int)=(((i+j)/2:Nat):Int):=mD i j (by omega);unfold fD at hm;rw[hm];have hk:(i+j)/2-P.length<X.length:=by omega
    have d:mid+(P.length+X.length)-1-(i+j)/2-(P.length+X.length)<Y.length:=by omega
    have g1:gi (P++X++Y++S) (((i+j)/2:Nat):Int)=some X[(i+j)/2-P.length]:=by
     have:=nC P X (Y++S) ((i+j)/2-P.length) hk
     grind
    have es:sb ((mid+(P.length+X.length)-1:Nat):Int) (((i+j)/2:Nat):Int)=(((P++X).length+(mid+(P.length+X.length)-1-(i+j)/2-(P.length+X.length)):Nat):Int):=by
     rw[Co (by omega) (by omega),Ak];omega
    have g2:gi (P++X++Y++S) (((P++X).length+(mid+(P.length+X.length)-1-(i+j)/2-(P.length+X.length)):Nat):Int)=some Y[mid+(P.length+X.length)-1-(i+j)/2-(P.length+X.length)]:=nC (P++X) Y S _ d;unfold gi2;rw[es,g2,Aa,g1,Aa,Aa,Ab hk,Ab d];simp only[NW];cases decide (key Y[mid+(P.length+X.length)-1-(i+j)/2-(P.length+X.length)]<key X[(i+j)/2-P.length])
    ·simp only[Cj,Ai];rw[ad1<|by omega]
    rfl)
   (λi=>by
    simp only[Em]
    grind)
   (hi-lo) lo hi (Ay _) (Ay _) m (Ay _) (λh=>absurd h<|by omega) (λh=>absurd h<|by omega)
  rw[r1,Aa];obtain⟨fin,b0⟩:∃fin,fin=mid+(P.length+X.length)-r:=⟨_,rfl⟩;have h2:sb ((mid+(P.length+X.length):Nat):Int) (r:Int)=(fin:Int):=by rw[Co (by omega)<|by omega];omega
  simp only[h2];have b4:P.length+X.length<=fin/\fin<=P.length+X.length+Y.length:=by omega
  obtain⟨A1,A2,hA⟩:∃A1 A2,A1=X.take (r-P.length)/\A2=X.drop (r-P.length):=⟨_,_,rfl,rfl⟩;obtain⟨B1,B2,hB⟩:∃B1 B2,B1=Y.take (fin-(P.length+X.length))/\B2=Y.drop (fin-(P.length+X.length)):=⟨_,_,rfl,rfl⟩;have o:A1++A2=X:=by rw[hA.1,hA.2];simp
  have p:B1++B2=Y:=by rw[hB.1,hB.2];simp
  have lA1:A1.length=r-P.length:=by rw[hA.1];simp;omega
  have lA2:A2.length=P.length+X.length-r:=by rw[hA.2];simp;omega
  have lB1:B1.length=fin-(P.length+X.length):=by rw[hB.1];simp;omega
  have lB2:B2.length=P.length+X.length+Y.length-fin:=by rw[hB.2];simp;omega
  have sX':=sX;rw[<-o]at sX';obtain⟨sA1,sA2,sA⟩:=AQ.1 sX';have sY':=sY;rw[<-p]at sY';obtain⟨sB1,sB2,sB⟩:=AQ.1 sY';have a5:∀u∈A1,∀v∈B2,key u<=key v:=by
   intro u hu v hv;have l1:=OR hu;have l2:=OR hv;have hp:=r4 (by omega);have d:mid+(P.length+X.length)-1-(r-1)-(P.length+X.length)<Y.length:=by omega
   have k:r-1-P.length<X.length:=by omega
   rw[Ab d,Ab k]at hp;simp only[CI,Gh]at hp;rw[hA.1]at hu;have k1:=VT key sX (r:=r-P.length) (by omega) (by omega) u hu;rw[hB.2]at hv;have k2:=VU key sY (r:=fin-(P.length+X.length)) (by omega) v hv;have i1:X[r-P.length-1]'(by omega)=X[r-1-P.length]'k:=by congr 1;omega
   have i2:Y[fin-(P.length+X.length)]'(by omega)=Y[mid+(P.length+X.length)-1-(r-1)-(P.length+X.length)]'d:=by congr 1;omega
   rw[i1]at k1;rw[i2]at k2;omega
  have h3:∀x∈A2,∀y∈B1,key y<key x:=by
   intro x hx y hy;have l1:=OR hx;have l2:=OR hy;have hp:=r5 (by omega);have d:mid+(P.length+X.length)-1-r-(P.length+X.length)<Y.length:=by omega
   have k:r-P.length<X.length:=by omega
   rw[Ab d,Ab k]at hp;simp only[Bool.not_eq_false',A5]at hp;rw[hA.2]at hx;have k1:=VU key sX k x hx;rw[hB.1]at hy;have k2:=VT key sY (r:=fin-(P.length+X.length)) (by omega) (by omega) y hy;have i2:Y[fin-(P.length+X.length)-1]'(by omega)=Y[mid+(P.length+X.length)-1-r-(P.length+X.length)]'d:=by congr 1;omega
   rw[i2]at k2;omega
  have h4:(((bif decide ((r:Int)<((P.length+X.length:Nat):Int))then some (decide<|((P.length+X.length:Nat):Int)<(fin:Int))else some false:Option Bool).bind λj2=>
    (bif j2 then((Fv (NW key) (P++X++Y++S) (r:Int) ((P.length+X.length:Nat):Int) (fin:Int)).bind λv11=>some v11)else some (P++X++Y++S):Option (List γ))))=some (P++A1++B1++A2++B2++S):=by
   have e:P++X++Y++S=(P++A1)++A2++B1++(B2++S):=by rw[<-o,<-p];simp
   by_cases c1:r<P.length+X.length
   ·rw[Ac (by omega:(r:Int)<((P.length+X.length:Nat):Int)),Ai,Aa];by_cases c2:P.length+X.length<fin
    ·rw[Ac (by omega:((P.length+X.length:Nat):Int)<(fin:Int)),Ai];have hr:=zH (lt:=NW key) (P++A1) A2 B1 (B2++S) (by intro e;rw[e]at lA2;simp at lA2;omega) (by intro e;rw[e]at lB1;simp at lB1;omega) (by simp only[Ak];omega);rw[show(P++A1).length=r by rw[Ak];omega]at hr;rw[show r+A2.length=P.length+X.length by omega,show P.length+X.length+B1.length=fin by omega]at hr;rw[e,hr,Aa];simp
    rw[Af (by omega:¬((P.length+X.length:Nat):Int)<(fin:Int)),Ad,e];have:B1=[]:=AD (by omega);rw[this];simp
   rw[Af (by omega:¬(r:Int)<((P.length+X.length:Nat):Int)),Ad,Aa,Ad,e];have:A2=[]:=AD (by omega);rw[this];simp
  rw[<-Option.bind_assoc,h4,Aa]
  have h5:∃Z1,(((bif decide (((P.length:Nat):Int)<(r:Int))then some (decide<|(r:Int)<(mid:Int))else some false:Option Bool).bind λj4=>
    (bif j4 then((CA (NW key) n (P++A1++B1++A2++B2++S) (P.length:Nat) (r:Int) (mid:Int)).bind λv12=>some v12)else some (P++A1++B1++A2++B2++S):Option (List γ))))=some (P++Z1++A2++B2++S)/\srt key Z1/\BV key (A1++B1) Z1:=by
   by_cases c1:P.length<r/\r<mid
   ·rw[Ac (by omega:((P.length:Nat):Int)<(r:Int)),Ai,Aa,Ac (by omega:(r:Int)<(mid:Int)),Ai];obtain⟨Z,z1,z2,z3⟩:=ih P A1 B1 (A2++B2++S) (by intro e;rw[e]at lA1;simp at lA1;omega) (by intro e;rw[e]at lB1;simp at lB1;omega) sA1 sB1 (by omega) (by simp only[Ak];omega);rw[show P.length+A1.length=r by omega,show r+B1.length=mid by omega]at z1;refine⟨Z,?_,z2,z3⟩;simp only[AG]at z1⊢;rw[z1];rfl
   refine⟨A1++B1,?_,?_,BV.refl key _⟩
   ·have:((bif decide (((P.length:Nat):Int)<(r:Int))then some (decide<|(r:Int)<(mid:Int))else some false:Option Bool))=some false:=by
     by_cases c:P.length<r
     ·rw[Ac (by omega),Ai,Af<|by omega]
     rw[Af (by omega),Ad]
    rw[this,Aa,Ad];simp
   by_cases c:P.length<r
   ·have:B1=[]:=AD (by omega);rw[this,AC];exact sA1
   have:A1=[]:=AD (by omega);rw[this,A3];exact sB1
  obtain⟨Z1,a6,a7,q⟩:=h5;rw[<-Option.bind_assoc,a6,Aa];have lZ1:Z1.length=A1.length+B1.length:=by have:=q.len key;rw[Ak]at this;omega
  have h6:∃Z2,(bif decide ((mid:Int)<(fin:Int))then(bif decide ((fin:Int)<((P.length+X.length+Y.length:Nat):Int))then((CA (NW key) n (P++Z1++A2++B2++S) (mid:Int) (fin:Int) ((P.length+X.length+Y.length:Nat):Int)).bind λv13=>some v13)else some<|P++Z1++A2++B2++S)else some (P++Z1++A2++B2++S):Option (List γ))=some (P++Z1++Z2++S)/\srt key Z2/\BV key (A2++B2) Z2:=by
   by_cases c1:mid<fin
   ·rw[Ac (by omega:(mid:Int)<(fin:Int)),Ai];by_cases c2:fin<P.length+X.length+Y.length
    ·rw[Ac (by omega:(fin:Int)<((P.length+X.length+Y.length:Nat):Int)),Ai];obtain⟨Z,z1,z2,z3⟩:=ih (P++Z1) A2 B2 S (by intro e;rw[e]at lA2;simp at lA2;omega) (by intro e;rw[e]at lB2;simp at lB2;omega) sA2 sB2 (by omega) (by simp only[Ak];omega);rw[show(P++Z1).length=mid by rw[Ak];omega,show mid+A2.length=fin by omega,show fin+B2.length=P.length+X.length+Y.length by omega]at z1;exact⟨Z,by rw[z1];rfl,z2,z3⟩
    rw[Af (by omega:¬(fin:Int)<((P.length+X.length+Y.length:Nat):Int)),Ad];have:B2=[]:=AD (by omega);refine⟨A2++B2,by simp,?_,BV.refl key _⟩;rw[this,AC];exact sA2
   rw[Af (by omega:¬(mid:Int)<(fin:Int)),Ad];have:A2=[]:=AD (by omega);refine⟨A2++B2,by simp,?_,BV.refl key _⟩;rw[this,A3];exact sB2
  obtain⟨Z2,a8,a9,h7⟩:=h6;rw[a8];refine⟨Z1++Z2,by simp,AQ.2 ⟨a7,a9,λu hu v hv=>?_⟩,?_⟩
  ·have hu':=(q.mem key).1 hu;have hv':=(h7.mem key).1 hv
   rcases Ao.1 hu' with hu'|hu'<;>rcases Ao.1 hv' with hv'|hv'
   ·exact sA u hu' v hv'
   ·exact a5 u hu' v hv'
   ·exact vS<|h3 v hv' u hu'
   exact sB u hu' v hv'
  have e1:=GQ key (BV.refl key A1)<|GQ key (BV.swap key h3)<|BV.refl key B2;have e2:=GQ key q h7;have e3:=BV.trans key (by simpa using e1) (by simpa using e2);have:X++Y=A1++(A2++(B1++B2)):=by rw[<-o,<-p];simp
  rw[this];simpa using e3
end
section
variable {γ:Type} (key:γ->Int)
inductive Blocks (bs:Nat):List γ->Prop
 |last {l:List γ} (h:l.length<=bs) (hs:srt key l):Blocks bs l
 |cons {X l:List γ} (h:X.length=bs) (hs:srt key X) (hl:Blocks bs l):Blocks bs (X++l)
end
theorem nN (c:γ->Int) (N:Nat) (hN:N<=1073741824) (B:Int×Int×List γ->Option ((Int×Int×List γ)⊕(Int×List γ))) (hB:∀a b l,B (a,b,l)=CY (NW c) (N:Int) a b l):
  ∀(k:Nat) (P T:List γ),T.length<=k->P.length+T.length=N->
   ∃Q R,Al B ((P.length:Int),((P.length+20:Nat):Int),P++T)=some (((P.length+Q.length:Nat):Int),P++Q++R)/\BV c T (Q++R)/\R.length<20/\(∀R',srt c R'->R'.length=R.length->Blocks c 20 (Q++R')):=by
 intro k
 induction k with
 |zero=>
  intro P T hT hP;have:=AD<|Nat.le_zero.1 hT;subst this;refine⟨[],[],?_,BV.refl c _,by simp,λR' h h2=>?_⟩
  ·rw[Ax,hB];simp only[CY]
   grind
  rw[A3];exact .last (by omega) h
 |succ k ih=>
  intro P T hT hP;by_cases h20:T.length<20
  ·refine⟨[],T,?_,by exact BV.refl c _,h20,λR' h h2=>by rw[A3];exact .last (by omega) h⟩;rw[Ax,hB];simp only[CY]
   grind
  have d:T=T.take 20++T.drop 20:=(BF _ _).symm;have l1:(T.take 20).length=20:=by simp;omega
  have l2:(T.drop 20).length=T.length-20:=by simp
  obtain⟨X',x1,x2,x3⟩:=Ji c P (T.take 20) (T.drop 20) (by omega);have lX:X'.length=20:=by have:=x3.len c;omega
  rw[l1]at x1;obtain⟨Q,R,q1,q2,q3,q4⟩:=ih (P++X') (T.drop 20) (by omega) (by rw[Ak];omega);refine⟨X'++Q,R,?_,?_,q3,λR' h h2=>?_⟩
  ·rw[Ax,hB];simp only[CY];rw[Ac (by omega:((P.length+20:Nat):Int)<=(N:Int)),Ai];have e:P++T=P++T.take 20++T.drop 20:=by grind
   rw[e,x1,Aa];simp only;have e2:ad ((P.length+20:Nat):Int) 20=(((P++X').length+20:Nat):Int):=by rw[Cy (by omega) (by omega),Ak];omega
   rw[e2,show P.length+20=(P++X').length by rw[Ak];omega,q1];simp only[Ak,AG,Q9]
  ·have:=GQ c x3 q2
   grind
  rw[AG];exact .cons lX x2<|q4 R' h h2
theorem nM (c:γ->Int) (N bs:Nat) (hN:N<=1073741824) (e:0<bs) (f:bs<N) (B:Int×Int×List γ->Option ((Int×Int×List γ)⊕(Int×List γ))) (hB:∀a b l,B (a,b,l)=Dw (NW c) (N:Int) (bs:Int) a b l):
  ∀(k:Nat) (P T:List γ),T.length<=k->P.length+T.length=N->Blocks c bs T->
   ∃Q R,Al B ((P.length:Int),((P.length+2*bs:Nat):Int),P++T)=some (((P.length+Q.length:Nat):Int),P++Q++R)/\BV c T (Q++R)/\R.length<2*bs/\Blocks c bs R/\(∀R',srt c R'->R'.length=R.length->Blocks c (2*bs) (Q++R')):=by
 intro k
 induction k with
 |zero=>
  intro P T hT hP hb;have:=AD<|Nat.le_zero.1 hT;subst this;refine⟨[],[],?_,BV.refl c _,by simp;omega,hb,λR' h h2=>?_⟩
  ·rw[Ax,hB];simp only[Dw]
   grind
  rw[A3];exact .last (by omega) h
 |succ k ih=>
  intro P T hT hP hb;by_cases h2:T.length<2*bs
  ·refine⟨[],T,?_,by exact BV.refl c _,h2,hb,λR' h h3=>by rw[A3];exact .last (by omega) h⟩;rw[Ax,hB];simp only[Dw]
   grind
  
  obtain⟨X,Y,T2,rfl,lX,lY,sX,sY,d⟩:∃X Y T2,T=X++Y++T2/\X.length=bs/\Y.length=bs/\srt c X/\srt c Y/\Blocks c bs T2:=by
   cases hb with
   |last h hs=>omega
   | @cons X l h hs hl=>
    cases hl with
    |last h' hs'=>
     simp only[Ak]at h2;exact⟨X,l,[],by simp,h,by omega,hs,hs',.last (by simp) List.Pairwise.nil⟩
    | @cons Y l' h' hs' hl'=>grind
  simp only[Ak]at hP hT h2;obtain⟨Z,z1,z2,z3⟩:=XY c ((P++(X++Y++T2)).length+1) P X Y T2 (by grind) (by grind) sX sY (by simp only[Ak];omega) (by omega);have lZ:Z.length=2*bs:=by have:=z3.len c;rw[Ak]at this;omega
  obtain⟨Q,R,q1,q2,q3,q4,q5⟩:=ih (P++Z) T2 (by omega) (by rw[Ak];omega) d;refine⟨Z++Q,R,?_,?_,q3,q4,λR' h h3=>?_⟩
  ·rw[Ax,hB];simp only[Dw];rw[Ac (by omega:((P.length+2*bs:Nat):Int)<=(N:Int)),Ai];have e1:ad (P.length:Int) (bs:Int)=((P.length+X.length:Nat):Int):=by rw[Cy (by omega)<|by omega];omega
   have e2:((P.length+2*bs:Nat):Int)=((P.length+X.length+Y.length:Nat):Int):=by omega
   have e3:ad ((P.length+2*bs:Nat):Int) (ml 2 (bs:Int))=(((P++Z).length+2*bs:Nat):Int):=by
    rw[Qf (by omega) (by omega),Cy (by omega) (by omega),Ak];omega
   have e4:P++(X++Y++T2)=P++X++Y++T2:=by simp
   rw[e3,e1,e2,e4];rw[e4]at z1;rw[z1,Aa];simp only;rw[show P.length+X.length+Y.length=(P++Z).length by rw[Ak];omega,q1];simp only[Ak,AG,Q9]
  ·have:=GQ c z3 q2
   grind
  rw[AG];exact .cons lZ z2<|q5 R' h h3
section
variable (key:γ->Int)
theorem gQ (l:List γ) (hN:l.length<=1073741824):∃r,Dm (NW key) l (ln l)=some r/\srt key r/\BV key l r:=by
 have rounds:∀(B:Int×List γ->Option ((Int×List γ)⊕(List γ))),(∀b l',B (b,l')=Dx (NW key) (l.length:Int) b l')->∀(k bs:Nat) (T:List γ),l.length<=bs+k->0<bs->bs<=2147483648->T.length=l.length->Blocks key bs T->∃r,Al B ((bs:Int),T)=some r/\srt key r/\BV key T r:=by
  intro B hB k
  induction k with
  |zero=>
   intro bs T hk c d hT hb;rw[Ax,hB];simp only[Dx];rw[Af (by omega:¬(bs:Int)<(l.length:Int)),Ad];refine⟨T,rfl,?_,BV.refl key _⟩
   cases hb with
   |last h hs=>exact hs
   | @cons X l' h hs hl=>
    simp only[Ak]at hT;have:l'=[]:=AD<|by omega
    grind
  |succ k ih=>
   intro bs T hk c d hT hb;by_cases e:bs<l.length
   ·rw[Ax,hB];simp only[Dx];rw[Ac (by omega:(bs:Int)<(l.length:Int)),Ai];obtain⟨Q,R,q1,q2,q3,q4,q5⟩:=nM key l.length bs hN c e (λs=>Dw (NW key) (l.length:Int) (bs:Int) s.1 s.2.1 s.2.2) (λ_ _ _=>rfl) T.length [] T (Ay _) (by simp[hT]) hb;simp only[Ek,A3,HZ]at q1;have a:Q.length+R.length=l.length:=by have:=q2.len key;grind
    have e2:ml 2 (bs:Int)=((2*bs:Nat):Int):=by rw[Qf (by omega)<|by omega];omega
    have e2':ml (bs:Int) 2=((2*bs:Nat):Int):=by rw[Qf (by omega)<|by omega];omega
    rw[e2,e2'];rw[show((0:Nat):Int)=0 from rfl]at q1;rw[q1,Aa];simp only;have em:ad (Q.length:Int) (bs:Int)=((Q.length+bs:Nat):Int):=by rw[Cy (by omega)<|by omega];omega
    rw[em];by_cases hm:Q.length+bs<l.length
    ·rw[Ac (by omega:((Q.length+bs:Nat):Int)<(l.length:Int)),Ai];obtain⟨X,Y,rfl,lX,sX,sY⟩:∃X Y,R=X++Y/\X.length=bs/\srt key X/\srt key Y:=by
      cases q4 with
      |last h hs=>omega
      | @cons X l' h hs hl=>
       refine⟨X,l',rfl,h,hs,?_⟩
       cases hl with
       |last h' hs'=>exact hs'
       | @cons Y l'' h' hs' hl'=>grind
     simp only[Ak]at a q3;obtain⟨Z,z1,z2,z3⟩:=XY key ((Q++(X++Y)).length+1) Q X Y [] (by grind) (by grind) sX sY (by grind) (by grind);have e5:Q++X++Y++ []=Q++(X++Y):=by simp
     rw[e5,AC,lX,show Q.length+bs+Y.length=l.length by omega]at z1;rw[z1,Aa];have lZ:Z.length=(X++Y).length:=(z3.len key).symm;obtain⟨r,r1,r2,r3⟩:=ih (2*bs) (Q++Z) (by omega) (by omega) (by omega) (by grind)<|q5 Z z2 lZ;exact⟨r,r1,r2,BV.trans key q2<|BV.trans key (GQ key (BV.refl key Q) z3) r3⟩
    rw[Af (by omega:¬((Q.length+bs:Nat):Int)<(l.length:Int)),Ad];have sR:srt key R:=by
     cases q4 with
     |last h hs=>exact hs
     | @cons X l' h hs hl=>
      simp only[Ak]at a;have:l'=[]:=AD<|by omega
      grind
    obtain⟨r,r1,r2,r3⟩:=ih (2*bs) (Q++R) (by omega) (by omega) (by omega) (by grind)<|q5 R sR rfl;exact⟨r,r1,r2,BV.trans key q2 r3⟩
   grind
 unfold Dm;rw[Bh];obtain⟨Q,R,q1,q2,q3,q4⟩:=nN key l.length hN (λs=>CY (NW key) (l.length:Int) s.1 s.2.1 s.2.2) (λ_ _ _=>rfl) l.length [] l (Ay _) (by simp);simp only[Ek,A3,HZ]at q1;rw[show((0:Nat):Int)=0 from rfl,show((20:Nat):Int)=20 from rfl]at q1;rw[q1,Aa];have a:Q.length+R.length=l.length:=by have:=q2.len key;grind
 obtain⟨R',r1,r2,r3⟩:=Ji key Q R [] (by grind);rw[AC,AC,a]at r1;simp only;rw[r1,Aa];have lR:R'.length=R.length:=(r3.len key).symm;obtain⟨r,w1,w2,w3⟩:=rounds (λs=>Dx (NW key) (l.length:Int) s.1 s.2) (λ_ _=>rfl) l.length 20 (Q++R') (by omega) (by omega) (by omega) (by grind)<|q4 R' r2 lR;rw[show((20:Nat):Int)=20 from rfl]at w1;rw[w1];exact⟨r,rfl,w2,BV.trans key q2<|BV.trans key (GQ key (BV.refl key Q) r3) w3⟩
end
end Go.TI
