/- What walks of Go code need. No condition. -/
import Derived.Test.YtdhemppeejlbeabGreatCNT2
import Derived.KernelRfl
import Derived.Laws.StructEq
set_option linter.unusedVariables false
namespace Go.TI
open Go Go.RowKit
def oA (ops:Array Oper) (i:Nat):Oper:=match ops[i]? with
 |some o=>o
 | none => { dst := none, op := .load 0 (.tmp 0), type := 0, pos := "", after := #[], guard := none }
variable {E E' E1:St} {P:Program} {N i sz m d j sz' by_ e':Nat} {ops:Array Oper} {Q:Exit->St->Prop} {α β γ α' V A:Type} {dn FA UA:List Nat} {n n':Int} {w:World} {s:SV} {blk:Root->Nat} {K:St->Prop} {as:List AV} {FS US:Root->List Nat} {b:Bool} {fn:Func} {row row':List TV} {k:IntKind} {t':TV} {rest:List Oper} {f:α->List TV} {r:β} {l:List α} {kk:α->Option β} {tx:Option β} {ty:Option β} {f':α'->List TV} {l':List α'} {x':α'} {u:List α} {fin:α->List TV}
theorem Jl {ops:Array Oper} (h:Nat.blt i ops.size=true):ops[i]?=some (oA ops i):=by
 have:i<ops.size:=by simpa[Bt]using h
 unfold oA;rw[Array.getElem?_eq_getElem this]
theorem GR {ops:Array Oper} (h:Nat.blt i ops.size=true):ops.toList.drop i=oA ops i::ops.toList.drop (i+1):=by
 have hi:i<ops.toList.length:=by simpa[Bt]using h
 have h1:=Jl h;rw[<-Array.getElem?_toList,Ab hi]at h1
 injection h1 with h1
 rw[Bf hi,h1]
def Rb (P:Program) (ops:Array Oper) (E:St) (i:Nat):Bool:=Nat.blt i ops.size&&(match BK P ops E (oA ops i)with|some b=>b|none=>false)
theorem Ij {ops:Array Oper} (h:Rb P ops E i=true):Nat.blt i ops.size=true/\BK P ops E (oA ops i)=some true:=by
 simp only[Rb,An]at h;refine⟨h.1,?_⟩;have h2:=h.2;split at h2
 ·rename_i b hb;rw[hb,h2]
 cases h2
def GM (N:Nat) (o:Oper):Bool:=match o.dst with
 |some d=>Nat.blt d N
 |none=>false
theorem Fs {o:Oper} (h:GM N o=true):∃d,o.dst=some d/\Nat.blt d N=true/\d<N:=by
 unfold GM at h;split at h
 ·rename_i d hd;exact⟨d,hd,h,by simpa[Bt]using h⟩
 cases h
def vW (P:Program) (N:Nat) (ops:Array Oper) (mv:Bool) (E:St) (i:Nat):Option St:=bif Nat.blt i ops.size then
  match BK P ops E (oA ops i)with
  |some true=>CQ P N mv E (oA ops i)
  |some false=>bif GM N (oA ops i)then some (E.put (oA ops i).dst (.tup []))else none
  |none=>none else none
def QW (P:Program) (N:Nat) (ops:Array Oper):Nat->Nat->Nat->St->Option St
 |0,_,_,E=>some E
 |k+1,m,i,E=>match vW P N ops (Nat.beq (m %2) 1) E i with
  |some E'=>QW P N ops k (m/2) (i+1) E'
  |none=>none
def Pg (P:Program) (N:Nat) (ops:Array Oper) (k m i:Nat) (E:St):St:=(QW P N ops k m i E).getD E
theorem getD_some {α:Type _} {x:Option α} {a:α} (h:x.isSome=true):x=some (x.getD a):=by
 cases x with
 |none=>cases h
 |some y=>rfl
def RW (P:Program) (N:Nat) (ops:Array Oper) (i:Nat) (E:St) (Q:Exit->St->Prop):Prop:=Hr P N ops (ops.toList.drop i) E Q
def SW (P:Program) (N:Nat) (ops:Array Oper) (m i:Nat) (E:St) (K:St->Prop):Prop:=FW P N ops ((ops.toList.take m).drop i) E K
theorem bd {k:α->Option β} {G:Prop} {x:Option α} (h:x.bind k=some r) (hk:∀a,x=some a->k a=some r->G):G:=by
 obtain⟨a,ha,h⟩:=Av.1 h;exact hk a ha h
theorem RW.nil (h:Q .normal E) (hi:Nat.ble ops.size i=true:=by kernel_rfl):RW P N ops i E Q:=by
 have:ops.size<=i:=by simpa[P7]using hi
 unfold RW;rw[De (by simpa using this)];exact Hr.nil h
theorem Cs {mv:Bool} (hs:CQ P N mv E (oA ops i)=some E') (h:RW P N ops (i+1) E' Q) (hk:Rb P ops E i=true:=by kernel_rfl):RW P N ops i E Q:=by
 obtain⟨h1,h2⟩:=Ij hk;unfold RW;rw[GR h1];exact Hr.op mv h2 hs h
theorem RW.st {mv:Bool} (hs:vW P N ops mv E i=some E') (h:RW P N ops (i+1) E' Q):RW P N ops i E Q:=by
 unfold vW at hs
 cases hi:Nat.blt i ops.size with
 |false=>rw[hi]at hs;cases hs
 |true=>
  rw[hi]at hs;simp only[Ae]at hs;unfold RW;rw[GR hi];split at hs
  ·rename_i hg;exact Hr.op mv hg hs h
  ·rename_i hg
   cases hd:GM N (oA ops i)with
   |false=>rw[hd]at hs;cases hs
   |true=>
    rw[hd]at hs;simp only[Ae]at hs
    injection hs with hs
    subst hs;obtain⟨d,h1,_,h2⟩:=Fs hd;rw[h1]at h;exact AAc h1 h2 hg h
  cases hs
theorem RW.run:∀{k m i:Nat} {E E':St},QW P N ops k m i E=some E'->RW P N ops (i+k) E' Q->RW P N ops i E Q
 |0,m,i,E,E',h,hw=>by
  simp only[QW]at h
  injection h with h
  subst h;exact hw
 |k+1,m,i,E,E',h,hw=>by
  simp only[QW]at h;split at h
  ·rename_i E1 h1;exact RW.st h1 (RW.run h (by rw[FR,Ob 1 k];exact hw))
  cases h
theorem vA (k m:Nat) (h:RW P N ops (i+k) (Pg P N ops k m i E) Q) (hk:(QW P N ops k m i E).isSome=true:=by kernel_rfl):RW P N ops i E Q:=RW.run (getD_some hk) h
def wT (P:Program) (N:Nat) (ops:Array Oper) (i:Nat) (E:St):Bool:=Rb P ops E i&&pk (oA ops i)&&GM N (oA ops i)
theorem oS (h:wT P N ops i E=true):Rb P ops E i=true/\pk (oA ops i)=true/\∃d,(oA ops i).dst=some d/\Nat.blt d N=true/\d<N:=by
 simp only[wT,An]at h;exact⟨h.1.1,h.1.2,Fs h.2⟩
theorem RW.q (hp:Bm P E (oA ops i)=some s) (h:RW P N ops (i+1) (E.put (oA ops i).dst s) Q) (hk:wT P N ops i E=true:=by kernel_rfl):RW P N ops i E Q:=by
 obtain⟨h1,h2,d,h3,h4,_⟩:=oS hk;rw[h3]at h;exact Cs (rE hp h3 h4 h2) h h1
theorem ADw (t:Nat) (h:(bif b then tx else ty)=some r) (ht:tx=some r->RW P N ops i (E.rs t true) Q) (hf:ty=some r->RW P N ops i (E.rs t false) Q) (hc:E.slots t=B b:=by kernel_rfl):RW P N ops i E Q:=ACL h t ht hf hc
theorem QA (h:Nat.blt i ops.size=true) (hm:Nat.blt i m=true):(ops.toList.take m).drop i=oA ops i::(ops.toList.take m).drop (i+1):=by
 have hi:i<ops.size:=by simpa[Bt]using h
 have a:i<m:=by simpa[Bt]using hm
 have hl:i<(ops.toList.take m).length:=by simp;omega
 have h1:=Jl h;rw[Bf hl];congr 1;rw[Fd];rw[<-Array.getElem?_toList,Ab (by simpa using hi)]at h1;injection h1
theorem SW.nil (h:K E) (hi:(Nat.ble ops.size i||Nat.ble m i)=true:=by kernel_rfl):SW P N ops m i E K:=by
 unfold SW
 rw[De (by
  rw[Co]at hi
  rcases hi with hi|hi
  ·have:ops.size<=i:=by simpa[P7]using hi
   simp;omega
  have:m<=i:=by simpa[P7]using hi
  simp;omega)]
 exact FW.nil h
def oB (P:Program) (N:Nat) (ops:Array Oper) (m:Nat) (E:St) (i:Nat):Option St:=bif Nat.blt i ops.size&&Nat.blt i m&&GM N (oA ops i)then
  match BK P ops E (oA ops i)with
  |some true=>match JT P E (oA ops i)with
   |some s=>some (E.put (oA ops i).dst s)
   |none=>none
  |some false=>some (E.put (oA ops i).dst (.tup []))
  |none=>none else none
def cT (P:Program) (N:Nat) (ops:Array Oper) (m:Nat):Nat->Nat->St->Option St
 |0,_,E=>some E
 |k+1,i,E=>match oB P N ops m E i with
  |some E'=>cT P N ops m k (i+1) E'
  |none=>none
theorem SW.st (hs:oB P N ops m E i=some E') (h:SW P N ops m (i+1) E' K):SW P N ops m i E K:=by
 unfold oB at hs
 cases hb:(Nat.blt i ops.size&&Nat.blt i m&&GM N (oA ops i))with
 |false=>rw[hb]at hs;cases hs
 |true=>
  rw[hb]at hs;simp only[Ae]at hs;simp only[An]at hb;obtain⟨d,h1,_,h2⟩:=Fs hb.2;unfold SW;rw[QA hb.1.1 hb.1.2];split at hs
  ·rename_i hg;split at hs
   ·rename_i s a
    injection hs with hs
    subst hs;rw[h1]at h;exact FW.op s hg h1 h2 a h
   cases hs
  ·rename_i hg
   injection hs with hs
   subst hs;rw[h1]at h;exact z7 h1 h2 hg h
  cases hs
theorem SW.run:∀{k i:Nat} {E E':St},cT P N ops m k i E=some E'->SW P N ops m (i+k) E' K->SW P N ops m i E K
 |0,i,E,E',h,hw=>by
  simp only[cT]at h
  injection h with h
  subst h;exact hw
 |k+1,i,E,E',h,hw=>by
  simp only[cT]at h;split at h
  ·rename_i E1 h1;exact SW.st h1 (SW.run h (by rw[FR,Ob 1 k];exact hw))
  cases h
theorem D5 (k:Nat) (h:SW P N ops m (i+k) ((cT P N ops m k i E).getD E) K) (hk:(cT P N ops m k i E).isSome=true:=by kernel_rfl):SW P N ops m i E K:=SW.run (getD_some hk) h
theorem SW.q (hp:Bm P E (oA ops i)=some s) (h:SW P N ops m (i+1) (E.put (oA ops i).dst s) K) (hk:(wT P N ops i E&&Nat.blt i m)=true:=by kernel_rfl):SW P N ops m i E K:=by
 rw[An]at hk;obtain⟨h1,h2,d,h3,h4,h5⟩:=oS hk.1;obtain⟨h6,h7⟩:=Ij h1;rw[h3]at h;unfold SW;rw[QA h6 hk.2];exact FW.op s h7 h3 h5 (rF hp h2) h
theorem eZ (t:Nat) (h:(bif b then tx else ty)=some r) (ht:tx=some r->SW P N ops m i (E.rs t true) K) (hf:ty=some r->SW P N ops m i (E.rs t false) K) (hc:E.slots t=B b:=by kernel_rfl):SW P N ops m i E K:=ACD h t ht hf hc
def lsd (n:Nat):List Nat->Array Bool
 |[]=>Array.replicate n false
 |i::l=>(lsd n l).setIfInBounds i true
def KW (P:Program) (N:Nat) (ops:Array Oper) (ts:List Nat) (dn:List Nat) (E:St) (Q:Exit->St->Prop):Prop:=Xh P N ops ts (ops.size-dn.length) (lsd ops.size dn) E Q
def KB (P:Program) (N:Nat) (ops:Array Oper) (ts:List Nat) (dn:List Nat) (i:Nat) (E:St) (Q:Exit->St->Prop):Prop:=fB P N ops ts i E (λE'=>KW P N ops ts (i::dn) E' Q) Q
theorem AP {ts:List Nat} (h:Q .normal E) (hr:(Region.ready .any ops (lsd ops.size dn)).isEmpty=true:=by kernel_rfl):KW P N ops ts dn E Q:=AAd h (by simpa using hr)
def vF (ops:Array Oper) (dn l:List Nat):Bool:=(Region.ready .any ops (lsd ops.size dn)==l)&&Nat.blt dn.length ops.size
theorem Vb (h:Nat.blt dn.length ops.size=true):ops.size-dn.length=(ops.size-(i::dn).length)+1:=by
 have:dn.length<ops.size:=by simpa[Bt]using h
 simp only[Ay];omega
theorem KW.all {ts:List Nat} (l:List Nat) (h:∀i∈l,KB P N ops ts dn i E Q) (a:l≠ []) (hr:vF ops dn l=true):KW P N ops ts dn E Q:=by
 simp only[vF,An,Ck]at hr;unfold KW;rw[Vb (i:=0) hr.2];exact Xh.all l (λi hi=>h i hi) hr.1 a
theorem Bi {ts:List Nat} (i:Nat) (h:KB P N ops ts dn i E Q) (hr:vF ops dn [i]=true:=by kernel_rfl):KW P N ops ts dn E Q:=KW.all [i] (λj hj=>by simp only[Aw]at hj;subst hj;exact h) (by simp) hr
theorem CL {ts:List Nat} (i j:Nat) (h:KB P N ops ts dn i E Q) (h2:KB P N ops ts dn j E Q) (hr:vF ops dn [i,j]=true:=by kernel_rfl):KW P N ops ts dn E Q:=KW.all [i,j] (λm hm=>by
 simp only[B7,List.not_mem_nil,or_false]at hm
 rcases hm with rfl|rfl<;>assumption) (by simp) hr
theorem Xi {ts:List Nat} (i j k:Nat) (h:KB P N ops ts dn i E Q) (h2:KB P N ops ts dn j E Q) (h3:KB P N ops ts dn k E Q) (hr:vF ops dn [i,j,k]=true:=by kernel_rfl):KW P N ops ts dn E Q:=KW.all [i,j,k] (λm hm=>by
 simp only[B7,List.not_mem_nil,or_false]at hm
 rcases hm with rfl|rfl|rfl<;>assumption) (by simp) hr
theorem AB3 {ts:List Nat} (i j k l:Nat) (h:KB P N ops ts dn i E Q) (h2:KB P N ops ts dn j E Q) (h3:KB P N ops ts dn k E Q) (h4:KB P N ops ts dn l E Q) (hr:vF ops dn [i,j,k,l]=true:=by kernel_rfl):KW P N ops ts dn E Q:=KW.all [i,j,k,l] (λm hm=>by
 simp only[B7,List.not_mem_nil,or_false]at hm
 rcases hm with rfl|rfl|rfl|rfl<;>assumption) (by simp) hr
theorem IY {ts:List Nat} {mv:Bool} (hs:CQ P N mv E (oA ops i)=some E') (h:KW P N ops ts (i::dn) E' Q) (hk:(Rb P ops E i&&(kp (oA ops i)||ts.contains i))=true:=by kernel_rfl):KB P N ops ts dn i E Q:=by
 rw[An]at hk;obtain⟨h1,h2⟩:=Ij hk.1;exact fB.op i mv h hs (Jl h1) h2 hk.2
theorem KB.q {ts:List Nat} (hp:Bm P E (oA ops i)=some s) (h:KW P N ops ts (i::dn) (E.put (oA ops i).dst s) Q) (hk:(wT P N ops i E&&(kp (oA ops i)||ts.contains i))=true:=by kernel_rfl):KB P N ops ts dn i E Q:=by
 rw[An]at hk;obtain⟨h1,h2,d,h3,h4,h5⟩:=oS hk.1;rw[h3]at h;exact IY (rE hp h3 h4 h2) h (by rw[h1,hk.2];rfl)
def nR (ops:Array Oper) (ts dn:List Nat) (i:Nat):Bool:=Nat.blt dn.length ops.size&&SB ops ts ops.size i (lsd ops.size dn)
theorem ACQ {ts:List Nat} (i:Nat) (hp:JT P E (oA ops i)=some s) (h:KW P N ops ts (i::dn) (E.put (oA ops i).dst s) Q) (hk:(Rb P ops E i&&GM N (oA ops i)&&nR ops ts dn i)=true):KW P N ops ts dn E Q:=by
 simp only[An,nR]at hk;obtain⟨⟨h1,h2⟩,h3,h4⟩:=hk;obtain⟨h5,h6⟩:=Ij h1;obtain⟨d,h7,h8,_⟩:=Fs h2;unfold KW at h⊢;rw[Vb (i:=i) h3];rw[h7]at h;exact Xh.take ops.size i d s h hp (Jl h5) h4 h6 h7 h8
theorem KW.q {ts:List Nat} (i:Nat) (hp:Bm P E (oA ops i)=some s) (h:KW P N ops ts (i::dn) (E.put (oA ops i).dst s) Q) (hk:(wT P N ops i E&&nR ops ts dn i)=true:=by kernel_rfl):KW P N ops ts dn E Q:=by
 rw[An]at hk;have h0:=hk.1;simp only[wT,An]at h0;exact ACQ i (rF hp h0.1.2) h (by rw[h0.1.1,h0.2,hk.2];rfl)
theorem ADB {ts:List Nat} (i:Nat) (h:KW P N ops ts (i::dn) (E.put (oA ops i).dst (.tup [])) Q) (hg:BK P ops E (oA ops i)=some false) (hk:(Nat.blt i ops.size&&GM N (oA ops i)&&nR ops ts dn i)=true):KW P N ops ts dn E Q:=by
 simp only[An,nR]at hk;obtain⟨⟨h1,h2⟩,h3,h4⟩:=hk;obtain⟨d,h7,h8,_⟩:=Fs h2;unfold KW at h⊢;rw[Vb (i:=i) h3];rw[h7]at h;exact jE ops.size i d h (Jl h1) h4 hg h7 h8
def yP (P:Program) (N:Nat) (ops:Array Oper) (ts:List Nat) (mv:Bool) (dn:List Nat) (E:St) (i:Nat):Option St:=match BK P ops E (oA ops i)with
 |some false=>bif Nat.blt i ops.size&&GM N (oA ops i)&&nR ops ts dn i then some (E.put (oA ops i).dst (.tup []))else none
 |some true=>bif Nat.blt i ops.size&&GM N (oA ops i)&&nR ops ts dn i&&!mv then
   (match JT P E (oA ops i)with
   |some s=>some (E.put (oA ops i).dst s)
   |none=>bif vF ops dn [i]&&(kp (oA ops i)||ts.contains i)then CQ P N mv E (oA ops i)else none) else bif Nat.blt i ops.size&&vF ops dn [i]&&(kp (oA ops i)||ts.contains i)then CQ P N mv E (oA ops i)else none
 |none=>none
def uG (P:Program) (N:Nat) (ops:Array Oper) (ts:List Nat):List Nat->Nat->List Nat->St->Option St
 |[],_,_,E=>some E
 |i::l,m,dn,E=>match yP P N ops ts (Nat.beq (m %2) 1) dn E i with
  |some E'=>uG P N ops ts l (m/2) (i::dn) E'
  |none=>none
def gL:List Nat->List Nat->List Nat
 |[],dn=>dn
 |i::l,dn=>gL l (i::dn)
section
variable {ts:List Nat}
theorem KW.st {mv:Bool} (hs:yP P N ops ts mv dn E i=some E') (h:KW P N ops ts (i::dn) E' Q):KW P N ops ts dn E Q:=by
 unfold yP at hs;split at hs
 ·rename_i hg
  cases hb:(Nat.blt i ops.size&&GM N (oA ops i)&&nR ops ts dn i)with
  |false=>rw[hb]at hs;cases hs
  |true=>
   rw[hb]at hs;simp only[Ae]at hs
   injection hs with hs
   subst hs;exact ADB i h hg hb
 ·rename_i hg;have one:(Nat.blt i ops.size&&vF ops dn [i]&&(kp (oA ops i)||ts.contains i))=true->CQ P N mv E (oA ops i)=some E'->KW P N ops ts dn E Q:=by
   intro hb hs;simp only[An]at hb;refine Bi i (IY hs h ?_) hb.1.2;simp only[Rb,hb.1.1,hg,hb.2,GS]
  cases hb:(Nat.blt i ops.size&&GM N (oA ops i)&&nR ops ts dn i&&!mv)with
  |false=>
   rw[hb]at hs;simp only[Ac]at hs
   cases a:(Nat.blt i ops.size&&vF ops dn [i]&&(kp (oA ops i)||ts.contains i))with
   |false=>rw[a]at hs;cases hs
   |true=>rw[a]at hs;exact one a hs
  |true=>
   rw[hb]at hs;simp only[Ae]at hs;simp only[An]at hb;split at hs
   ·rename_i s b
    injection hs with hs
    subst hs;refine ACQ i b h ?_;simp only[Rb,hb.1.1.1,hb.1.1.2,hb.1.2,hg,GS]
   cases a:(vF ops dn [i]&&(kp (oA ops i)||ts.contains i))with
   |false=>rw[a]at hs;cases hs
   |true=>rw[a]at hs;exact one (by rw[hb.1.1.1,Cz];exact a) hs
 cases hs
end
theorem KW.run {ts:List Nat}:∀{l:List Nat} {m:Nat} {dn:List Nat} {E E':St},uG P N ops ts l m dn E=some E'->KW P N ops ts (gL l dn) E' Q->KW P N ops ts dn E Q
 |[],m,dn,E,E',h,hw=>by
  simp only[uG]at h
  injection h with h
  subst h;exact hw
 |i::l,m,dn,E,E',h,hw=>by
  simp only[uG]at h;split at h
  ·rename_i E1 h1;exact KW.st h1 (KW.run h hw)
  cases h
theorem AW {ts:List Nat} (l:List Nat) (m:Nat) (h:KW P N ops ts (gL l dn) ((uG P N ops ts l m dn E).getD E) Q) (hk:(uG P N ops ts l m dn E).isSome=true:=by kernel_rfl):KW P N ops ts dn E Q:=KW.run (getD_some hk) h
theorem NZ {ts:List Nat} (t:Nat) (h:(bif b then tx else ty)=some r) (ht:tx=some r->KW P N ops ts dn (E.rs t true) Q) (hf:ty=some r->KW P N ops ts dn (E.rs t false) Q) (hc:E.slots t=B b:=by kernel_rfl):KW P N ops ts dn E Q:=ACP h t ht hf hc
theorem AB1 {id:Nat} (h:RW P N ops 0 E Q):Wp P N (.region id ops false) E Q:=by
 have:=Wp.region (id:=id) (l:=ops.toList) (P:=P) (N:=N) (E:=E) (Q:=Q) (by simpa[RW]using h);simpa using this
theorem Lb {id:Nat} (hm:P.follows .mixedOrders=true) (h:SW P N ops ops.size 0 E (λE'=>Q .normal E')) (hB:Region.lexB .any ops=true:=by kernel_rfl):Wp P N (.region id ops true) E Q:=by
 have:=QI (id:=id) (l:=ops.toList) (P:=P) (N:=N) (E:=E) (Q:=Q) hm (by simpa using hB) (by
  have h2:=h;unfold SW at h2;rw[AS (by simp)]at h2
  simpa using h2)
 simpa using this
theorem QV {id:Nat} (n:Nat) (hm:P.follows .mixedOrders=true) (h:SW P N ops n 0 E (λE'=>RW P N ops n E' Q)) (hB:Region.lexTailB .any ops n=true:=by kernel_rfl):Wp P N (.region id ops true) E Q:=by
 have:=qB (id:=id) (l:=ops.toList) (P:=P) (N:=N) (E:=E) (Q:=Q) n hm (by simpa using hB) (by simpa[SW,RW]using h);simpa using this
theorem Dg {id:Nat} (ts:List Nat) (hm:P.follows .mixedOrders=true) (hQ:∀c E,Q (.panic c) E->False) (h:KW P N ops ts [] E Q):Wp P N (.region id ops true) E Q:=
 qC ops.size ts hm hQ (by simpa[KW,lsd]using h) rfl
def dG (E:St) (x:Operand) (sz:Nat):Option (List TV):=match E.ref x with
 |some (r,q,j)=>match E.place r q j with
  |some (.sl _ _ s cells)=>bif Nat.beq s sz then some cells else none
  |_=>none
 |none=>none
theorem PU {x:Operand} {a:List TV} (h:dG E x sz=some a):∃r q j b e,E.ref x=some (r,q,j)/\E.place r q j=some (.sl b e sz a):=by
 unfold dG at h;split at h
 ·rename_i r q j hr;split at h
  ·rename_i b e s cells' hp
   cases hs:Nat.beq s sz with
   |false=>rw[hs]at h;cases h
   |true=>
    rw[hs]at h;simp only[Ae]at h
    injection h with h
    have:=B5 hs;subst h this;exact⟨r,q,j,b,e,hr,hp⟩
  cases h
 cases h
def Z8 (P:Program) (t:TypeId):TypeId:=match P.underlying t with
 |some (.slice e)=>e
 |_=>0
def Xk (P:Program) (t:TypeId) (sz:Nat):Bool:=match P.underlying t with
 |some (.slice e)=>Nat.beq (P.cellsOf e) sz&&Nat.blt 0 sz
 |_=>false
theorem MO {t:TypeId} (h:Xk P t sz=true):∃e,P.underlying t=some (.slice e)/\P.cellsOf e=sz/\Nat.blt 0 sz=true:=by
 unfold Xk at h;split at h
 ·rename_i e he;rw[An]at h;exact⟨e,he,B5 h.1,h.2⟩
 cases h
def HO (E:St) (x:Operand):Root×List Nat×Nat:=(E.ptr? x).getD (.hand,[],0)
def Ll (E:St) (x:Operand):Root×List Nat×Nat:=(E.ref x).getD (.hand,[],0)
def R3 (E:St) (x:Operand):Option (List TV×Nat):=match E.ptr? x with
 |some (r,q,j)=>match(E.root r).bind λcs=>Ca cs q with
  |some row=>some (row,j)
  |none=>none
 |none=>none
theorem R2 {x:Operand} {a:List TV} (h:R3 E x=some (a,j)):E.ptr? x=some ((HO E x).1,(HO E x).2.1,j)/\(E.root (HO E x).1).bind (λcs=>Ca cs (HO E x).2.1)=some a:=by
 unfold R3 at h;split at h
 ·rename_i r q j' hp;split at h
  ·rename_i row' hr
   injection h with h
   injection h with h1 h2
   subst h1 h2;simp only[HO,hp,Bk];exact⟨trivial,hr⟩
  cases h
 cases h
theorem tS {r:Root} {x:Operand} {q:List Nat} {a:List TV} (h1:E.ptr? x=some (r,q,j)) (h2:(E.root r).bind (λcs=>Ca cs q)=some a):R3 E x=some (a,j):=by
 unfold R3;rw[h1];simp only[h2]
def FZ (o:Oper):TypeId×Operand×Operand:=match o.op with
 | .indexAddr t a i=>(t,a,i)
 |_=>(0,.tmp 0,.tmp 0)
def uJ (o:Oper):Bool:=match o.op with
 | .indexAddr .. =>true
 |_=>false
theorem g6 {o:Oper} (h:uJ o=true):o.op= .indexAddr (FZ o).1 (FZ o).2.1 (FZ o).2.2:=by
 unfold uJ at h;unfold FZ;split at h
 ·rename_i h1;simp only[h1]
 cases h
def Td (P:Program) (E:St) (x:Operand):Option Int:=match E.cell1 P 0 x with
 |some (.int _ n)=>some n
 |_=>none
theorem II {x:Operand} (h:Td P E x=some n):∃k,E.cell1 P 0 x=some (.int k n):=by
 unfold Td at h;split at h
 ·rename_i k m hc
  injection h with h
  subst h;exact⟨k,hc⟩
 cases h
def yS (P:Program) (E:St) (o:Oper) (sz:Nat):Option (List TV×Int):=bif uJ o&&Xk P (FZ o).1 sz then(match dG E (FZ o).2.1 sz,Td P E (FZ o).2.2 with
 |some c,some n=>some (c,n)
 |_,_=>none)else none
def lM (E:St) (o:Oper) (m:Nat):SV:= .one (.ptr (Ll E (FZ o).2.1).1 (E.ver (Ll E (FZ o).2.1).1) ((Ll E (FZ o).2.1).2.1++ [(Ll E (FZ o).2.1).2.2]) m)
section
variable {o:Oper} {x:α}
theorem Ja (hf:∀x,(f x).length=sz) (hx:gi l n=some x) (hc:yS P E o sz=some (AU f l,n):=by kernel_rfl):Bm P E o=some (lM E o (n.toNat*sz+0)):=by
 unfold yS at hc
 cases hb:(uJ o&&Xk P (FZ o).1 sz)with
 |false=>rw[hb]at hc;cases hc
 |true=>
  rw[hb]at hc;simp only[Ae]at hc;rw[An]at hb;split at hc
  ·rename_i c n' h1 h2
   injection hc with hc
   injection hc with a b
   subst a b;obtain⟨r,q,j,d,e',h3,h4⟩:=PU h1;obtain⟨k,h5⟩:=II h2;obtain⟨e,h6,h7,h8⟩:=MO hb.2;have:=AC9 hf r q j hx h4 (g6 hb.1) h6 h5 h3 h7 h8;rw[this];simp only[lM,Ll,h3,Bk]
  cases hc
end
section
variable {o:Oper} {x:α}
theorem ACi (hf:∀x,(f x).length=sz) (hx:gi l n=some x) (hf':∀x,(f' x).length=sz') (hx':gi l' n'=some x') (k:Nat) (hi:(uJ o&&Xk P (FZ o).1 sz&&Nat.blt k sz')=true:=by kernel_rfl) (hn:Td P E (FZ o).2.2=some n:=by kernel_rfl) (hr:E.ref (FZ o).2.1=some ((Ll E (FZ o).2.1).1,(Ll E (FZ o).2.1).2.1,n'.toNat*sz'+k):=by kernel_rfl) (hp:(E.root (Ll E (FZ o).2.1).1).bind (λcs=>Ca cs (Ll E (FZ o).2.1).2.1)=some (AU f' l'):=by kernel_rfl) {a:Bool} (hc:(f' x')[k]?=some (.sl a e' sz (AU f l)):=by rfl):Bm P E o=some (lM E o (n.toNat*sz+0)):=by
 simp only[An]at hi;obtain⟨k',h5⟩:=II hn;obtain⟨e,h6,h7,h8⟩:=MO hi.1.2;have b:E.place (Ll E (FZ o).2.1).1 (Ll E (FZ o).2.1).2.1 (n'.toNat*sz'+k)=some (.sl a e' sz (AU f l)):=by
  obtain⟨cs,h1,h2⟩:=Av.1 hp;simp only[St.place,h1,Aa,h2];rw[O8 hf' hx' (by simpa[Bt]using hi.2),hc]
 have:=AC9 hf _ _ _ hx b (g6 hi.1.1) h6 h5 hr h7 h8;have hj:(Ll E (FZ o).2.1).2.2=n'.toNat*sz'+k:=Cb (λz:Option (Root×List Nat×Nat)=>(z.getD (Root.hand,[],0)).2.2) hr;rw[this,lM,hj]
end
section
variable {x:α}
theorem pr2 {a:Operand} {c:List TV} (q0:Nat) (hf':∀x,(f' x).length=sz') (hx':gi l' n'=some x') (k:Nat) (h1:E.ptr? a=some ((HO E a).1,[q0,n'.toNat*sz'+k],j):=by kernel_rfl) (hc:(E.root (HO E a).1).bind (λcs=>Ca cs [q0])=some (AU f' l'):=by kernel_rfl) (b:Ca (f' x') [k]=some c:=by kernel_rfl) (hk:Nat.blt k sz'=true:=by kernel_rfl):R3 E a=some (c,j):=by
 refine tS h1 ?_;obtain⟨cs,h2,h3⟩:=Av.1 hc;have h4:=sT hf' hx' (q:=[]) (show k<sz' by simpa[Bt]using hk);rw[h2];simp only[Aa];simp only[Ca]at h3;split at h3
 ·rename_i o' e' s' d e
  injection h3 with h3
  subst h3;simp only[Ca,e];simp only[Ca]at h4 b;rw[h4];exact b
 cases h3
end
def RT (o:Oper):TypeId×Operand×Nat:=match o.op with
 | .fieldAddr t a i=>(t,a,i)
 |_=>(0,.tmp 0,0)
def ACu (o:Oper):Bool:=match o.op with
 | .fieldAddr .. =>true
 |_=>false
theorem AA9 {o:Oper} (h:ACu o=true):o.op= .fieldAddr (RT o).1 (RT o).2.1 (RT o).2.2:=by
 unfold ACu at h;unfold RT;split at h
 ·rename_i h1;simp only[h1]
 cases h
def ABT (P:Program) (o:Oper):Option Nat:=match P.underlying (RT o).1 with
 |some (.struct fs)=>match fs[(RT o).2.2]? with
  |some fd=>bif Nat.beq (P.cellsOf fd.type) 0 then none else some fd.offset
  |none=>none
 |_=>none
def ADq (E:St) (o:Oper) (m:Nat):SV:= .one (.ptr (HO E (RT o).2.1).1 (E.stamp (HO E (RT o).2.1).1 (HO E (RT o).2.1).2.1) (HO E (RT o).2.1).2.1 m)
section
variable {o:Oper} {x:α}
theorem DD (hf:∀x,(f x).length=sz) (hx:gi l n=some x) (k m:Nat) (hr:R3 E (RT o).2.1=some (AU f l,n.toNat*sz+k):=by kernel_rfl) (ho:(ACu o&&Nat.blt m sz)=true:=by kernel_rfl) (a:ABT P o=some (m-k):=by kernel_rfl) (b:Nat.ble k m=true:=by kernel_rfl):Bm P E o=some (ADq E o (n.toNat*sz+m)):=by
 rw[An]at ho;obtain⟨h1,h2⟩:=R2 hr;have d:k<=m:=by simpa[P7]using b
 unfold ABT at a;split at a
 ·rename_i fs hs;split at a
  ·rename_i fd c
   cases hb:Nat.beq (P.cellsOf fd.type) 0 with
   |true=>rw[hb]at a;cases a
   |false=>
    rw[hb]at a;simp only[Ac]at a
    injection a with a
    have hm:k+fd.offset=m:=by omega
    exact AD3 hf _ _ k hx h2 (AA9 ho.1) hs h1 c hb hm (by rw[hm];exact ho.2)
  cases a
 cases a
end
def O2 (o:Oper):TypeId×Operand:=match o.op with
 | .load t a=>(t,a)
 |_=>(0,.tmp 0)
def AA8 (o:Oper):Bool:=match o.op with
 | .load .. =>true
 |_=>false
theorem sJ {o:Oper} (h:AA8 o=true):o.op= .load (O2 o).1 (O2 o).2:=by
 unfold AA8 at h;unfold O2;split at h
 ·rename_i h1;simp only[h1]
 cases h
def ABQ (P:Program) (o:Oper) (k sz:Nat):Bool:=AA8 o&&!bT P (O2 o).1&&Nat.beq (P.cellsOf (O2 o).1) 1&&(P.underlying (O2 o).1).isSome&&Nat.blt k sz
def ABR (P:Program) (o:Oper) (k m sz:Nat):Bool:=AA8 o&&bT P (O2 o).1&&Nat.beq (P.cellsOf (O2 o).1) m&&Nat.ble (k+m) sz
def ldC (E:St) (o:Oper) (j:Nat) (u:TV):SV:= .one (see E (HO E (O2 o).2).1 (HO E (O2 o).2).2.1 j u)
def ldA (E:St) (o:Oper) (j:Nat) (us:List TV):SV:= .agg (Ux E (HO E (O2 o).2).1 (HO E (O2 o).2).2.1 j us)
section
variable {o:Oper} {x:α}
theorem CG (hf:∀x,(f x).length=sz) (hx:gi l n=some x) (k:Nat) (hr:R3 E (O2 o).2=some (AU f l,n.toNat*sz+k):=by kernel_rfl) (ho:ABQ P o k sz=true:=by kernel_rfl):Bm P E o=some (ldC E o (n.toNat*sz+k) (((f x)[k]?).getD .junk)):=by
 simp only[ABQ,An,CP]at ho;obtain⟨⟨⟨⟨h3,h4⟩,h5⟩,h6⟩,h7⟩:=ho;obtain⟨h1,h2⟩:=R2 hr;have hk:k<(f x).length:=by rw[hf];simpa[Bt]using h7
 refine AD2 hf _ _ k _ hx h2 (sJ h3) h1 h4 (B5 h5) h6 h7 ?_;rw[Ab hk];rfl
end
section
variable {o:Oper} {x:α}
theorem J6 (hf:∀x,(f x).length=sz) (hx:gi l n=some x) (k m:Nat) (hr:R3 E (O2 o).2=some (AU f l,n.toNat*sz+k):=by kernel_rfl) (ho:ABR P o k m sz=true:=by kernel_rfl):Bm P E o=some (ldA E o (n.toNat*sz+k) (((f x).drop k).take m)):=by
 simp only[ABR,An]at ho;obtain⟨⟨⟨h3,h4⟩,h5⟩,h6⟩:=ho;obtain⟨h1,h2⟩:=R2 hr;exact AD1 hf _ _ k m hx h2 (sJ h3) h1 h4 (B5 h5) h6
end
section
variable {x:α}
def Po (o:Oper):TypeId×Operand:=match o.op with
 | .call c=>match c.callee,c.args.toList,c.argTypes.toList with
  | .builtin .len,[x],[t]=>(t,x)
  |_,_,_=>(0,.tmp 0)
 |_=>(0,.tmp 0)
end
section
variable {x:α}
def AA7 (o:Oper):Bool:=match o.op with
 | .call c=>match c.callee,c.args.toList,c.argTypes.toList with
  | .builtin .len,[x],[t]=>true
  |_,_,_=>false
 |_=>false
end
theorem sH {o:Oper} (h:AA7 o=true):o.op= .call {callee:= .builtin .len,args:= #[(Po o).2],argTypes:= #[(Po o).1]}:=by
 unfold AA7 at h;unfold Po;split at h
 ·rename_i c hc;split at h
  ·rename_i x t h1 h2 h3;obtain⟨callee,args,types⟩:=c;simp only at h1 h2 h3;subst h1;obtain rfl:args= #[x]:=by cases args;simp_all
   obtain rfl:types= #[t]:=by cases types;simp_all
   rw[hc]
  cases h
 cases h
section
variable {o:Oper} {x:α}
theorem C0 (hf:∀x,(f x).length=sz) (l:List α) (hr:dG E (Po o).2 sz=some (AU f l):=by kernel_rfl) (ho:(AA7 o&&Xk P (Po o).1 sz)=true:=by kernel_rfl):Bm P E o=some (.one (.int .i64 (ln l))):=by
 rw[An]at ho;obtain⟨r,q,j,a,e',h3,h4⟩:=PU hr;obtain⟨e,h6,h7,h8⟩:=MO ho.2;exact AC8 hf l (sH ho.1) h6 h3 h4 h8
end
section
variable {o:Oper} {x:α}
theorem ADY (hf:∀x,(f x).length=sz) (l:List α) (hf':∀x,(f' x).length=sz') (hx':gi l' n'=some x') (k:Nat) (ho:(AA7 o&&Xk P (Po o).1 sz&&Nat.blt k sz')=true:=by kernel_rfl) (hr:E.ref (Po o).2=some ((Ll E (Po o).2).1,(Ll E (Po o).2).2.1,n'.toNat*sz'+k):=by kernel_rfl) (hp:(E.root (Ll E (Po o).2).1).bind (λcs=>Ca cs (Ll E (Po o).2).2.1)=some (AU f' l'):=by kernel_rfl) {a:Bool} (hc:(f' x')[k]?=some (.sl a e' sz (AU f l)):=by rfl):Bm P E o=some (.one (.int .i64 (ln l))):=by
 simp only[An]at ho;obtain⟨e,h6,h7,h8⟩:=MO ho.1.2;have b:E.place (Ll E (Po o).2).1 (Ll E (Po o).2).2.1 (n'.toNat*sz'+k)=some (.sl a e' sz (AU f l)):=by
  obtain⟨cs,h1,h2⟩:=Av.1 hp;simp only[St.place,h1,Aa,h2];rw[O8 hf' hx' (by simpa[Bt]using ho.2),hc]
 exact AC8 hf l (sH ho.1.1) h6 hr b h8
end
def Yn (P:Program) (E:St) (t:TypeId) (x:Operand):Option ByteArray:=match E.cell1 P t x with
 |some (.str s)=>some s
 |_=>none
theorem Nz {s:ByteArray} {t:TypeId} {x:Operand} (h:Yn P E t x=some s):E.cell1 P t x=some (.str s):=by
 unfold Yn at h;split at h
 ·rename_i u hu
  injection h with h
  rw[hu,h]
 cases h
def lO (P:Program) (t:TypeId):Bool:=match P.underlying t with
 |some .string=>true
 |_=>false
theorem Zb {t:TypeId} (h:lO P t=true):P.underlying t=some .string:=by
 unfold lO at h;split at h
 ·assumption
 cases h
def ABH (P:Program) (E:St) (o:Oper):Option (ByteArray×Int):=match o.op with
 | .index t a i=>match lO P t,Yn P E t a,Td P E i with
  |true,some s,some n=>some (s,n)
  |_,_,_=>none
 |_=>none
theorem nS {o:Oper} {s:ByteArray} {b:Int} (h:sx s n=some b) (hc:ABH P E o=some (s,n):=by kernel_rfl):Bm P E o=some (.one (.int .u8 b)):=by
 unfold ABH at hc;split at hc
 ·rename_i t a i ho;split at hc
  ·rename_i s' n' h1 h2 h3
   injection hc with hc
   injection hc with c d
   subst c d;obtain⟨k,h3⟩:=II h3;exact AD0 h ho (Zb h1) (Nz h2) h3
  cases hc
 cases hc
section
variable {x:α}
def eH (P:Program) (E:St) (d:Int):Option Operand->Option Int
 |none=>some d
 |some x=>Td P E x
end
def vU (P:Program) (E:St) (o:Oper):Option (ByteArray×Int×Int):=match o.op with
 | .slice t a lo hi none=>match lO P t,Yn P E t a with
  |true,some s=>match eH P E 0 lo,eH P E (s.size:Nat) hi with
   |some l,some h=>some (s,l,h)
   |_,_=>none
  |_,_=>none
 |_=>none
section
variable {o:Oper}
theorem Q7 {d:Int} {x:Option Operand} (h:eH P E d x=some n):∃k,(match x with|some o=>E.cell1 P 0 o|none=>some (.int .i64 d))=some (.int k n):=by
 cases x with
 |none=>
  simp only[eH]at h
  injection h with h
  exact⟨.i64,by rw[h]⟩
 |some x=>exact II h
end
theorem Xo {o:Oper} {s u:ByteArray} {l h:Int} (hx:sub s l h=some u) (hc:vU P E o=some (s,l,h):=by kernel_rfl):Bm P E o=some (.one (.str u)):=by
 unfold vU at hc;split at hc
 ·rename_i t a lo hi ho;split at hc
  ·rename_i s' h1 h2;split at hc
   ·rename_i l' h' h3 h4
    injection hc with hc
    injection hc with c b
    injection b with b d
    subst c b d;obtain⟨k1,h3⟩:=Q7 h3;obtain⟨k2,h4⟩:=Q7 h4;exact AC6 hx ho (Zb h1) (Nz h2) h3 h4
   cases hc
  cases hc
 cases hc
section
variable {x:α}
def zM (P:Program) (E:St) (o:Oper):Option (ByteArray×ByteArray):=match o.op with
 | .binOp .add t x y _=>match Yn P E t x,Yn P E t y with
  |some a,some b=>some (a,b)
  |_,_=>none
 |_=>none
end
theorem Fz {o:Oper} {a b u:ByteArray} (hx:Iz a b=some u) (hc:zM P E o=some (a,b):=by kernel_rfl):Bm P E o=some (.one (.str u)):=by
 unfold zM at hc;split at hc
 ·rename_i t x y t' ho;split at hc
  ·rename_i a' b' h1 h2
   injection hc with hc
   injection hc with c d
   subst c d;exact ADb hx ho (Nz h1) (Nz h2)
  cases hc
 cases hc
section
variable {x:α}
def QR (o:Oper):TypeId×TypeId×Operand:=match o.op with
 | .convert s d x=>(s,d,x)
 |_=>(0,0,.tmp 0)
end
section
variable {x:α}
def ADr (P:Program) (o:Oper):Bool:=match o.op with
 | .convert s d x=>(match P.underlying s,P.underlying d with
  |some (.slice e),some .string=>(match P.underlying e with
   |some (.int .u8)=>true
   |_=>false)
  |_,_=>false)
 |_=>false
end
theorem nT {o:Oper} {f:Int->List TV} (hf:∀n,f n=[.int .u8 n]) (l:List Int) (hr:dG E (QR o).2.2 1=some (AU f l):=by kernel_rfl) (ho:ADr P o=true:=by kernel_rfl):Bm P E o=some (.one (.str (EX l))):=by
 obtain⟨r,q,j,b,e',h3,h4⟩:=PU hr;unfold ADr at ho;split at ho
 ·rename_i s d x a;split at ho
  ·rename_i e hs hd;split at ho
   ·rename_i he;simp only[QR,a]at h3;exact AD5 hf l a hs hd he h3 h4
   cases ho
  cases ho
 cases ho
section
variable {x:α}
def wD (P:Program) (E:St) (o:Oper) (k:IntKind):Option (Int×Int):=match o.op with
 | .binOp .shl t x y _=>match E.cell1 P t x,E.cell1 P t y with
  |some (.int k' a),some (.int _ b)=>bif decide (k'=k)then some (a,b)else none
  |_,_=>none
 |_=>none
end
theorem ADX {o:Oper} {a b v:Int} (hx:shl k a b=some v) (hc:wD P E o k=some (a,b):=by kernel_rfl):Bm P E o=some (.one (.int k v)):=by
 unfold wD at hc;split at hc
 ·rename_i t x y t' ho;split at hc
  ·rename_i k' a' k2 b' h1 h2
   cases hk:decide (k'=k)with
   |false=>rw[hk]at hc;cases hc
   |true=>
    rw[hk]at hc;simp only[Ae]at hc
    injection hc with hc
    injection hc with hc1 hc2
    have:=Ik hk;subst hc1 hc2 this;exact AC7 hx ho h1 h2
  cases hc
 cases hc
section
variable {x:α}
def P1 (o:Oper):TypeId×Operand×Option Operand×Option Operand:=match o.op with
 | .slice t x lo hi none=>(t,x,lo,hi)
 |_=>(0,.tmp 0,none,none)
end
section
variable {x:α}
def ABa (o:Oper):Bool:=match o.op with
 | .slice t x lo hi none=>true
 |_=>false
end
theorem sK {o:Oper} (h:ABa o=true):o.op= .slice (P1 o).1 (P1 o).2.1 (P1 o).2.2.1 (P1 o).2.2.2 none:=by
 unfold ABa at h;unfold P1;split at h
 ·rename_i h1;simp only[h1]
 cases h
def rL (E:St) (x:Operand) (sz:Nat):Option (Nat×List TV):=match E.ref x with
 |some (r,q,j)=>match E.place r q j with
  |some (.sl false e s cells)=>bif Nat.beq s sz then some (e,cells)else none
  |_=>none
 |none=>none
theorem YB {x:Operand} {a:List TV} {e:Nat} (h:rL E x sz=some (e,a)):∃r q j,E.ref x=some (r,q,j)/\E.place r q j=some (.sl false e sz a):=by
 unfold rL at h;split at h
 ·rename_i r q j hr;split at h
  ·rename_i e' s cells' hp
   cases hs:Nat.beq s sz with
   |false=>rw[hs]at h;cases h
   |true=>
    rw[hs]at h;simp only[Ae]at h
    injection h with h
    injection h with h1 h2
    have:=B5 hs;subst h1 h2 this;exact⟨r,q,j,hr,hp⟩
  cases h
 cases h
section
variable {o:Oper} {x:α}
theorem pdr (hf:∀x,(f x).length=sz) {v:List α} {a b:Int} (e:Nat) (hx:dr l a b=some v) (hr:rL E (P1 o).2.1 sz=some (e,AU f l):=by kernel_rfl) (ha:eH P E 0 (P1 o).2.2.1=some a:=by kernel_rfl) (hb:((P1 o).2.2.2.bind (Td P E))=some b:=by kernel_rfl) (ho:(ABa o&&Xk P (P1 o).1 sz)=true:=by kernel_rfl):Bm P E o=some (.one (.sl false e sz (AU f v))):=by
 rw[An]at ho;obtain⟨r,q,j,h1,h2⟩:=YB hr;obtain⟨e1,h6,h7,h8⟩:=MO ho.2;obtain⟨k1,h3⟩:=Q7 ha;obtain⟨oh,h4,h5⟩:=Av.1 hb;obtain⟨k2,h5⟩:=II h5;have:=sK ho.1;rw[h4]at this;exact AD4 hf hx this h6 h1 h2 h3 h5 h7 h8
end
section
variable {o:Oper} {x:α}
theorem ACk (hf:∀x,(f x).length=sz) {v:List α} {a:Int} (e:Nat) (hx:dr l a (ln l)=some v) (hr:rL E (P1 o).2.1 sz=some (e,AU f l):=by kernel_rfl) (ha:eH P E 0 (P1 o).2.2.1=some a:=by kernel_rfl) (ho:(ABa o&&Xk P (P1 o).1 sz&&(P1 o).2.2.2.isNone)=true:=by kernel_rfl):Bm P E o=some (.one (.sl false e sz (AU f v))):=by
 simp only[An]at ho;obtain⟨r,q,j,h1,h2⟩:=YB hr;obtain⟨e1,h6,h7,h8⟩:=MO ho.1.2;obtain⟨k1,h3⟩:=Q7 ha;have:=sK ho.1.1;rw[Option.isNone_iff_eq_none.1 ho.2]at this;exact ADa hf hx this h6 h1 h2 h3 h7 h8
end
def AC0 (P:Program) (E:St) (o:Oper) (m:Nat):Bool:=match P.underlying (FZ o).1 with
 |some (.array len e)=>uJ o&&Nat.beq (P.cellsOf e) 1&&Nat.blt m len&&(match E.ptr? (FZ o).2.1 with
  |some (r,q,j)=>(E.place r q (j+m)).isSome
  |none=>false)
 |_=>false
def ABF (E:St) (o:Oper) (m:Nat):SV:= .one (.ptr (HO E (FZ o).2.1).1 (E.stamp (HO E (FZ o).2.1).1 (HO E (FZ o).2.1).2.1) (HO E (FZ o).2.1).2.1 ((HO E (FZ o).2.1).2.2+m))
theorem pxa {o:Oper} (m:Nat) (hn:n=(m:Int)) (hi:Td P E (FZ o).2.2=some n:=by kernel_rfl) (ho:AC0 P E o m=true:=by kernel_rfl):Bm P E o=some (ABF E o m):=by
 unfold AC0 at ho;split at ho
 ·rename_i len e ht;simp only[An]at ho;obtain⟨⟨⟨h1,h2⟩,h3⟩,h4⟩:=ho;obtain⟨k,hi⟩:=II hi;split at h4
  ·rename_i r q j hp;have:=ADZ r q j hn (g6 h1) ht hi hp (B5 h2) h3 h4;rw[this];simp only[ABF,HO,hp,Bk]
  cases h4
 cases ho
section
variable {x:α}
def H6 (o:Oper):TypeId×TypeId×Operand×Operand:=match o.op with
 | .call c=>match c.callee,c.args.toList,c.argTypes.toList with
  | .builtin .append,[s,x],[t,t']=>(t,t',s,x)
  |_,_,_=>(0,0,.tmp 0,.tmp 0)
 |_=>(0,0,.tmp 0,.tmp 0)
end
section
variable {x:α}
def ABc (o:Oper):Bool:=match o.op with
 | .call c=>match c.callee,c.args.toList,c.argTypes.toList with
  | .builtin .append,[s,x],[t,t']=>true
  |_,_,_=>false
 |_=>false
end
theorem sL {o:Oper} (h:ABc o=true):o.op= .call {callee:= .builtin .append,args:= #[(H6 o).2.2.1,(H6 o).2.2.2],argTypes:= #[(H6 o).1,(H6 o).2.1]}:=by
 unfold ABc at h;unfold H6;split at h
 ·rename_i c hc;split at h
  ·rename_i s x t t' h1 h2 h3;obtain⟨callee,args,types⟩:=c;simp only at h1 h2 h3;subst h1;obtain rfl:args= #[s,x]:=by cases args;simp_all
   obtain rfl:types= #[t,t']:=by cases types;simp_all
   rw[hc]
  cases h
 cases h
def ABs (P:Program) (N:Nat) (o:Oper) (sz by_:Nat):Bool:=ABc o&&Nat.beq (H6 o).1 (H6 o).2.1&&Xk P (H6 o).1 sz&&(LQ P (Z8 P (H6 o).1)).isSome&&Nat.beq (P.bytesOf (Z8 P (H6 o).1)) by_&&Nat.blt 0 by_&&GM N o
def Xa (P:Program) (E:St) (o:Oper) (sz:Nat):Option (List TV×St):=match E.cell1 P (H6 o).1 (H6 o).2.2.1 with
 |some sv=>match DP E sv with
  |some (.sl true e s cells,E1)=>bif Nat.beq e (Z8 P (H6 o).1)&&Nat.beq s sz then some (cells,E1)else none
  |_=>none
 |none=>none
def apE (P:Program) (E:St) (o:Oper) (sz:Nat):St:=((Xa P E o sz).map Prod.snd).getD E
def apV (P:Program) (o:Oper) (sz:Nat) (a:List TV):SV:= .one (.sl true (Z8 P (H6 o).1) sz a)
def zV (P:Program) (E1:St) (o:Oper) (sz:Nat):Option (Nat×List TV×St):=match E1.ref (H6 o).2.2.2 with
 |some (r,q,j)=>match E1.place r q j with
  |some (.sl _ _ s cells)=>bif Nat.beq s sz then(match FD E1 (Ux E1 r (q++ [j]) 0 cells)with
   |some (news,E2)=>some (cells.length,news,E2)
   |none=>none)else none
  |_=>none
 |none=>none
theorem iV {t:TypeId} {e:TypeId} (h:P.underlying t=some (.slice e)):Z8 P t=e:=by unfold Z8;rw[h]
section
variable {o:Oper} {x:α}
theorem ADp {E2:St} {r:Root} {e2:Nat} {cells2:List TV} (hf:∀x,(f x).length=sz) (l m:List α) (h:ap by_ l m=some u) (hd:Xa P E o sz=some (AU f l,E1)) {q:List Nat} {g:Bool} (hr:E1.ref (H6 o).2.2.2=some (r,q,j)) (hp:E1.place r q j=some (.sl g e2 sz cells2)) (hn:FD E1 (Ux E1 r (q++ [j]) 0 cells2)=some (AU f m,E2)) (hl:cells2.length=m.length*sz) (ho:ABs P N o sz by_=true):CQ P N false E o=some (E2.put o.dst (apV P o sz (AU f u))):=by
 obtain⟨rfl,i⟩:=ABr h;simp only[ABs,An]at ho;obtain⟨⟨⟨⟨⟨⟨a1,a2⟩,a3⟩,a4⟩,a5⟩,a6⟩,a7⟩:=ho;obtain⟨d,a8,_,a9⟩:=Fs a7;obtain⟨e,b1,b2,b3⟩:=MO a3;have a:=iV b1;rw[a]at a4 a5;have h0':0<sz:=by simpa[Bt]using b3
 have hb0':0<by_:=by simpa[Bt]using a6
 have hb:=B5 a5;have k:=B5 a2;unfold Xa at hd;rw[a]at hd;split at hd
 ·rename_i sv hs;split at hd
  ·rename_i e1 s n E1' h1
   cases hc:(Nat.beq e1 e&&Nat.beq s sz)with
   |false=>rw[hc]at hd;cases hd
   |true=>
    rw[hc]at hd;simp only[Ae]at hd
    injection hd with hd
    injection hd with hd1 hd2
    rw[An]at hc;have c1:=B5 hc.1;have c2:=B5 hc.2;subst hd1 hd2 c1 c2;have b:(AU f l).length/s=l.length:=by rw[Fq hf];exact FI _ h0'
    have c:cells2.length/s=m.length:=by rw[hl];exact FI _ h0'
    have p:l.length+m.length<=(l.length+m.length)*by_:=Nat.le_mul_of_pos_right _ hb0';unfold CQ;rw[a8];simp only[Ax a9,sL a1,Ax k,Ns,b1,hs,h1,hr,hp,hn];rw[Ax ⟨trivial,b2.symm,trivial,h0',a4,by rw[b,c];omega,by rw[b,c,hb];exact i⟩,WT,apV,a]
  cases hd
 cases hd
end
theorem ZN {o:Oper} {a:List TV} (h:(Xa P E o sz).map Prod.fst=some a):Xa P E o sz=some (a,apE P E o sz):=by
 unfold apE
 cases hx:Xa P E o sz with
 |none=>rw[hx]at h;cases h
 |some z=>
  rw[hx]at h;simp only[B9]at h
  injection h with h
  subst h;rfl
section
variable {o:Oper} {x:α}
theorem CN {m:List α} (hf:∀x,(f x).length=sz) (hg:∀x,JI (f x)=true) (l:List α) (h:ap by_ l m=some u) (hd:(Xa P E o sz).map Prod.fst=some (AU f l):=by kernel_rfl) (hm:dG (apE P E o sz) (H6 o).2.2.2 sz=some (AU f m):=by kernel_rfl) (ho:ABs P N o sz by_=true:=by kernel_rfl):
  CQ P N false E o=some ((apE P E o sz).put o.dst (apV P o sz (AU f u))):=by
 obtain⟨r,q,j,a,e,h1,h2⟩:=PU hm;exact ADp hf l m h (ZN hd) h1 h2 (by rw[Ys _ (T6 hg m),QO (T6 hg m)]) (Fq hf m) ho
end
section
variable {o:Oper} {x:α}
theorem Wh (hf:∀x,(f x).length=sz) (l m:List α) (h:ap by_ l m=some u) (hd:(Xa P E o sz).map Prod.fst=some (AU f l):=by kernel_rfl) (hm:(zV P (apE P E o sz) o sz).map (λz=>(z.1,z.2.1))=some (m.length*sz,AU f m):=by kernel_rfl) (ho:ABs P N o sz by_=true:=by kernel_rfl):
  CQ P N false E o=some ((((zV P (apE P E o sz) o sz).map (λz=>z.2.2)).getD E).put o.dst (apV P o sz (AU f u))):=by
 have hd':=ZN hd;generalize hE:apE P E o sz=E1 at hm hd'⊢;unfold zV at hm⊢
 cases hr:E1.ref (H6 o).2.2.2 with
 |none=>simp only[hr]at hm;cases hm
 |some z=>
  obtain⟨r,q,j⟩:=z;simp only[hr]at hm⊢
  cases hp:E1.place r q j with
  |none=>simp only[hp]at hm;cases hm
  |some t=>
   simp only[hp]at hm⊢
   cases t with
   |sl own e2 s cells=>
    simp only at hm⊢
    cases hb:Nat.beq s sz with
    |false=>rw[hb]at hm;cases hm
    |true=>
     rw[hb]at hm;simp only[Ae]at hm⊢;have:=B5 hb;subst this
     cases hn:FD E1 (Ux E1 r (q++ [j]) 0 cells)with
     |none=>simp only[hn]at hm;cases hm
     |some y=>
      obtain⟨news,E2⟩:=y;simp only[hn,B9]at hm⊢
      injection hm with hm
      injection hm with hm1 hm2
      subst hm2;exact ADp hf l m h hd' hr hp hn hm1 ho
   |_=>simp only at hm;cases hm
end
def Tc (o:Oper):TypeId×Operand×Operand:=match o.op with
 | .makeSlice t l c=>(t,l,c)
 |_=>(0,.tmp 0,.tmp 0)
def ACt (o:Oper):Bool:=match o.op with
 | .makeSlice .. =>true
 |_=>false
theorem AA6 {o:Oper} (h:ACt o=true):o.op= .makeSlice (Tc o).1 (Tc o).2.1 (Tc o).2.2:=by
 unfold ACt at h;unfold Tc;split at h
 ·rename_i h1;simp only[h1]
 cases h
def ADf (P:Program) (N:Nat) (o:Oper) (sz by_:Nat):Bool:=ACt o&&Xk P (Tc o).1 sz&&Nat.beq (P.bytesOf (Z8 P (Tc o).1)) by_&&GM N o
section
variable {o:Oper} {x:α}
theorem fmk (hf:∀x,(f x).length=sz) (z:α) (h:mk by_ z n=some u) (hl:Td P E (Tc o).2.1=some n:=by kernel_rfl) (hc:Td P E (Tc o).2.2=some n:=by kernel_rfl) (hz:LQ P (Z8 P (Tc o).1)=some (f z):=by kernel_rfl) (ho:ADf P N o sz by_=true:=by kernel_rfl):
  CQ P N false E o=some (E.put o.dst (.one (.sl true (Z8 P (Tc o).1) sz (AU f u)))):=by
 simp only[ADf,An]at ho;obtain⟨⟨⟨a1,a2⟩,a3⟩,a4⟩:=ho;obtain⟨d,a5,a6,_⟩:=Fs a4;obtain⟨e,b1,b2,b3⟩:=MO a2;have a:=iV b1;rw[a]at hz a3⊢;obtain⟨k1,hl⟩:=II hl;obtain⟨k2,hc⟩:=II hc;rw[a5];exact ADV z h (AA6 a1) a5 a6 b1 hl hc hz rfl (B5 a3) b2
end
def ACs (o:Oper):Bool:=match o.op with
 | .convert .. =>true
 |_=>false
theorem AA5 {o:Oper} (h:ACs o=true):o.op= .convert (QR o).1 (QR o).2.1 (QR o).2.2:=by
 unfold ACs at h;unfold QR;split at h
 ·rename_i h1;simp only[h1]
 cases h
def AC2 (P:Program) (N:Nat) (o:Oper):Bool:=ACs o&&lO P (QR o).1&&Xk P (QR o).2.1 1&&lN P (Z8 P (QR o).2.1)&&GM N o
theorem fsb {o:Oper} {f:Int->List TV} {b:ByteArray} (hf:∀n,f n=[.int .u8 n]) (hx:Yn P E (QR o).1 (QR o).2.2=some b) (ho:AC2 P N o=true:=by kernel_rfl):CQ P N false E o=some (E.put o.dst (.one (.sl false (Z8 P (QR o).2.1) 1 (AU f (oF b))))):=by
 simp only[AC2,An]at ho;obtain⟨⟨⟨⟨a1,a2⟩,a3⟩,a4⟩,a5⟩:=ho;obtain⟨d,a6,a7,_⟩:=Fs a5;obtain⟨e,b1,b2,b3⟩:=MO a3;have a:=iV b1;rw[a]at a4⊢;rw[a6];exact ADU hf (AA5 a1) a6 a7 (Zb a2) b1 (Nz hx) a4
section
variable {x:α}
def Rl (o:Oper):TypeId×Operand×Operand:=match o.op with
 | .store t a x=>(t,a,x)
 |_=>(0,.tmp 0,.tmp 0)
end
def ACr (o:Oper):Bool:=match o.op with
 | .store .. =>o.dst.isNone
 |_=>false
theorem AA4 {o:Oper} (h:ACr o=true):o.op= .store (Rl o).1 (Rl o).2.1 (Rl o).2.2/\o.dst=none:=by
 unfold ACr at h;unfold Rl;split at h
 ·rename_i h1;simp only[h1];exact⟨trivial,Option.isNone_iff_eq_none.1 h⟩
 cases h
def VE (P:Program) (E:St) (o:Oper):Option (List TV×St):=match E.val P (Rl o).1 (Rl o).2.2 with
 |some s=>M9 E s
 |none=>none
def vX (P:Program) (E:St) (o:Oper):List TV:=((VE P E o).map Prod.fst).getD []
def n9 (P:Program) (E:St) (o:Oper):St:=((VE P E o).map Prod.snd).getD E
def stP (P:Program) (E:St) (o:Oper):Root×List Nat×Nat:=HO (n9 P E o) (Rl o).2.1
def tE (P:Program) (E:St) (o:Oper) (k sz:Nat):Bool:=ACr o&&(VE P E o).isSome&&Nat.beq (vX P E o).length (P.cellsOf (Rl o).1)&&Nat.blt 0 (vX P E o).length&&Nat.ble (k+(vX P E o).length) sz
section
variable {o:Oper} {x:α}
theorem ADj {r:Root} (hf:∀x,(f x).length=sz) (hx:gi l n=some x) (k:Nat) {c:Nat} {q:List Nat} {cs cs':List TV} (ho:tE P E o k sz=true) (hp:(n9 P E o).ptr? (Rl o).2.1=some (r,c::q,n.toNat*sz+k)) (hr:(n9 P E o).root r=some cs) (A:At cs (c::q) (AU f l) (λa=>setRow a (n.toNat*sz+k) (vX P E o)) cs'):CQ P N false E o=some (((n9 P E o).setRoot r cs').bump r):=by
 simp only[tE,An]at ho;obtain⟨⟨⟨⟨a1,a2⟩,a3⟩,a4⟩,a5⟩:=ho;obtain⟨b1,b2⟩:=AA4 a1;have ht:VE P E o=some (vX P E o,n9 P E o):=by
  unfold vX n9
  cases hh:VE P E o with
  |none=>rw[hh]at a2;cases a2
  |some z=>rfl
 generalize hX:vX P E o=xs at*;generalize hE:n9 P E o=E1 at*;unfold VE at ht;split at ht
 ·rename_i s hs;have h0':0<xs.length:=by simpa[Bt]using a4
  simp only[CQ,b2,b1,Vo,hs,ht,hp,hr,A.c];rw[Ax ⟨A.o,B5 a3,h0',ACx hf hx a5⟩,Az (by simp),A.u]
 cases ht
end
section
variable {o:Oper}
def AAG (E:St) (r:Root) (c:Nat) (a:List TV):List TV:=match E.root r with
 |some cs=>match cs[c]? with
  |some (.sl o e s _)=>cs.set c (.sl o e s a)
  |_=>cs
 |none=>[]
end
def R7 (E:St) (r:Root) (c:Nat):Option (List TV):=match E.root r with
 |some cs=>match cs[c]? with
  |some (.sl true e s row)=>some row
  |_=>none
 |none=>none
theorem R6 {r:Root} {c:Nat} {a:List TV} (h:R7 E r c=some a):∃cs e s,E.root r=some cs/\cs[c]?=some (.sl true e s a)/\∀row',AAG E r c row'=cs.set c (.sl true e s row'):=by
 unfold R7 at h;unfold AAG;split at h
 ·rename_i cs hr;split at h
  ·rename_i e s row' hc
   injection h with h
   subst h;exact⟨cs,e,s,hr,hc,λrow''=>by simp only[hc]⟩
  cases h
 cases h
section
variable {o:Oper} {x:α}
theorem KV (hf:∀x,(f x).length=sz) (hx:gi l n=some x) (k c:Nat) (z:α) (ho:tE P E o k sz=true:=by kernel_rfl) (hp:(n9 P E o).ptr? (Rl o).2.1=some ((stP P E o).1,[c],n.toNat*sz+k):=by kernel_rfl) (hr:R7 (n9 P E o) (stP P E o).1 c=some (AU f l):=by kernel_rfl) (hz:setRow (f x) k (vX P E o)=f z:=by kernel_rfl):CQ P N false E o=some (((n9 P E o).setRoot (stP P E o).1 (AAG (n9 P E o) (stP P E o).1 c (AU f (si l n z)))).bump (stP P E o).1):=by
 obtain⟨cs,e,s,h1,h2,h3⟩:=R6 hr;refine ADj hf hx k ho hp h1 ?_;rw[h3];have hk:Nat.ble (k+(vX P E o).length) sz=true:=by
  simp only[tE,An]at ho;exact ho.2
 exact At.one (VH hf hx hk hz) h2 rfl
end
section
variable {o:Oper} {x:α}
theorem ADi (hf:∀x,(f x).length=sz) (hx:gi l n=some x) (k c:Nat) (z:α) (hf':∀x,(f' x).length=sz') (hx':gi l' n'=some x') (k':Nat) (z':α') (ho:(tE P E o k sz&&Nat.blt k' sz')=true:=by kernel_rfl) (hp:(n9 P E o).ptr? (Rl o).2.1=some ((stP P E o).1,[c,n'.toNat*sz'+k'],n.toNat*sz+k):=by kernel_rfl) (hr:R7 (n9 P E o) (stP P E o).1 c=some (AU f' l'):=by kernel_rfl) (hz:setRow (f x) k (vX P E o)=f z:=by kernel_rfl) {e s:Nat} (hc:(f' x')[k']?=some (.sl true e s (AU f l)):=by rfl) (hc':(f' x').set k' (.sl true e s (AU f (si l n z)))=f' z':=by rfl):CQ P N false E o=some (((n9 P E o).setRoot (stP P E o).1 (AAG (n9 P E o) (stP P E o).1 c (AU f' (si l' n' z')))).bump (stP P E o).1):=by
 obtain⟨cs,e1,s1,h1,h2,h3⟩:=R6 hr;rw[An]at ho;refine ADj hf hx k ho.1 hp h1 ?_;rw[h3];have hk:Nat.ble (k+(vX P E o).length) sz=true:=by
  have:=ho.1;simp only[tE,An]at this;exact this.2
 exact ADD hf' hx' (At.one (VH hf hx hk hz) hc hc') ho.2 h2 rfl
end
theorem KB.o {ops:Array Oper} {ts dn:List Nat} (mv:Bool) (h:KW P N ops ts (i::dn) ((CQ P N mv E (oA ops i)).getD E) Q) (hs:(CQ P N mv E (oA ops i)).isSome=true:=by kernel_rfl) (hk:(Rb P ops E i&&(kp (oA ops i)||ts.contains i))=true:=by kernel_rfl):KB P N ops ts dn i E Q:=IY (getD_some hs) h hk
def bits:Nat->List (TypeId×Operand)->List (Bool×TypeId×Operand)
 |_,[]=>[]
 |m,(t,x)::l=>(Nat.beq (m %2) 1,t,x)::bits (m/2) l
def P2 (o:Oper):Nat:=match o.op with
 | .call c=>match c.callee with
  | .value (.func f)=>f
  |_=>0
 |_=>0
def GH (o:Oper):List (TypeId×Operand):=match o.op with
 | .call c=>c.argTypes.toList.zip c.args.toList
 |_=>[]
def SQ (P:Program) (N:Nat) (o:Oper):Bool:=(match o.op with
 | .call c=>match c.callee with
  | .value (.func f)=>Nat.beq c.argTypes.size c.args.size&&(match P.funcs[f]? with
   | some fn => !(fn.name == "runtime.NumGoroutine") && !fn.body.isNone
   |none=>false)
  |_=>false
 |_=>false)&&(match o.dst with
 |some d=>Nat.blt d N
 |none=>true)
theorem P4:∀{l:List (TypeId×Operand)} {m:Nat},(bits m l).map (λx=>x.2.2)=l.map Prod.snd
 |[],m=>rfl
 |(t,x)::l,m=>by simp only[bits,BE,P4]
theorem OC {o:Oper} (h:SQ P N o=true):∃args tys,o.op= .call {callee:= .value (.func (P2 o)),args:=args,argTypes:=tys}/\bQ P (P2 o)/\(∀d,o.dst=some d->d<N)/\(GH o).map Prod.snd=args.toList:=by
 simp only[SQ,An]at h;obtain⟨h1,h2⟩:=h;have hN:∀d,o.dst=some d->d<N:=by
  intro d hd;rw[hd]at h2;simpa[Bt]using h2
 unfold P2 GH;split at h1
 ·rename_i c hc;split at h1
  ·rename_i f a;rw[An]at h1;obtain⟨h3,h4⟩:=h1;split at h4
   ·rename_i fn b;simp only[An,CP]at h4;obtain⟨callee,args,types⟩:=c;simp only at a h3;subst a;have hz:=B5 h3;refine⟨args,types,by simp only[hc],?_,hN,?_⟩
    ·exact⟨fn,b,by intro e;rw[e]at h4;simp at h4,h4.2⟩
    exact List.map_snd_zip (by simp[hz])
   cases h4
  cases h1
 cases h1
def mvA (P:Program) (E:St) (o:Oper) (m:Nat):Option (List (Option SV)×St):=ME P E (bits m (GH o))
def clE (P:Program) (E:St) (o:Oper) (m:Nat):St:=((mvA P E o m).map Prod.snd).getD E
def shA (P:Program) (E:St) (o:Oper) (m:Nat):Option (List AV×Bool):=match mvA P E o m with
 |some (ss,E1)=>J9 P E1 (bits m (GH o)) ss
 |none=>none
def aI (P:Program) (E:St) (o:Oper) (m:Nat):Option (List AV):=(shA P E o m).map Prod.fst
def shB (P:Program) (E:St) (o:Oper) (m:Nat):Bool:=match shA P E o m with
 |some (_,b)=>b
 |none=>false
theorem zH {o:Oper} {a:SV} (h:aI P E o m=some as) (hc:shB P E o m=true\/Bo a=false):XP P E o.dst (bits m (GH o)) as a ((clE P E o m).put o.dst a):=by
 unfold aI shB shA at*;unfold clE
 cases hm:mvA P E o m with
 |none=>rw[hm]at h;cases h
 |some z=>
  obtain⟨ss,E1⟩:=z;rw[hm]at h hc;simp only at h hc
  cases hs:J9 P E1 (bits m (GH o)) ss with
  |none=>rw[hs]at h;cases h
  |some y=>
   obtain⟨as',c⟩:=y;rw[hs]at h hc;simp only[B9]at h hc
   injection h with h
   subst h;exact⟨ss,E1,c,hm,hs,hc,rfl⟩
theorem ca {γ:Type _} {l l':List γ} {a b:γ} (h:a=b) (k:l=l'):a::l=b::l':=by rw[h,k]
theorem cs {e sz:Nat} {a b:List TV} (h:BQ a=b):TV.sl false e sz (BQ a)= .sl false e sz b:=by rw[h]
theorem co {a b:TV} (h:a=b):AV.sv (.one a)= .sv (.one b):=by rw[h]
theorem QS {a b:List TV} (h:a=b):AV.sv (.agg a)= .sv (.agg b):=by rw[h]
theorem RW.c {l:List AV} {n:Nat} {x:Option α} (m:Nat) (h:x.bind kk=some r) {enc:α->SV} (a:∀v,x=some v->AI P (P2 (oA ops i)) l (enc v) (List.replicate n .gone)) (hk:∀v,x=some v->kk v=some r->RW P N ops (i+1) ((clE P E (oA ops i) m).put (oA ops i).dst (enc v)) Q) (b:aI P E (oA ops i) m=some l:=by kernel_rfl) (hc:shB P E (oA ops i) m=true\/∀v,Bo (enc v)=false:=by exact .inl (by kernel_rfl)) (ho:(Rb P ops E i&&SQ P N (oA ops i))=true:=by kernel_rfl):RW P N ops i E Q:=by
 obtain⟨v,hv,h⟩:=Av.1 h;rw[An]at ho;obtain⟨h1,h2⟩:=Ij ho.1;obtain⟨args,tys,h3,h4,h5,h6⟩:=OC ho.2;unfold RW;rw[GR h1];exact Hr.call h3 h4 h2 h5 (bits m (GH (oA ops i))) (by rw[P4,h6]) (a v hv) (zH b (hc.imp id (λh=>h v))) (hk v hv h)
section
variable {ts:List Nat}
theorem KB.c {l:List AV} {n:Nat} {x:Option α} (m:Nat) (h:x.bind kk=some r) {enc:α->SV} (a:∀v,x=some v->AI P (P2 (oA ops i)) l (enc v) (List.replicate n .gone)) (hk:∀v,x=some v->kk v=some r->KW P N ops ts (i::dn) ((clE P E (oA ops i) m).put (oA ops i).dst (enc v)) Q) (b:aI P E (oA ops i) m=some l:=by kernel_rfl) (hc:shB P E (oA ops i) m=true\/∀v,Bo (enc v)=false:=by exact .inl (by kernel_rfl)) (ho:(Rb P ops E i&&SQ P N (oA ops i)&&((bits m (GH (oA ops i))).all (λx=>!x.1)||ts.contains i))=true:=by kernel_rfl):KB P N ops ts dn i E Q:=by
 obtain⟨v,hv,h⟩:=Av.1 h;simp only[An]at ho;obtain⟨h1,h2⟩:=Ij ho.1.1;obtain⟨args,tys,h3,h4,h5,h6⟩:=OC ho.1.2;exact fB.call i (Jl h1) h3 h4 h2 h5 (bits m (GH (oA ops i))) (by rw[P4,h6]) ho.2 (a v hv) (zH b (hc.imp id (λh=>h v))) (hk v hv h)
end
theorem gs {f:FuncId} {l l':List AV} {n:Nat} {x:Option α} {enc:α->SV} (e:l=l') (h:∀v,x=some v->AI P f l' (enc v) (List.replicate n .gone)):∀v,x=some v->AI P f l (enc v) (List.replicate n .gone):=e▸h
def mN (E:St) (o:Oper):Root:=match GH o with
 |(_,x)::_=>(HO E x).1
 |[]=> .hand
def uW (E:St) (o:Oper):Bool:=match GH o with
 |(_,x)::_=>(match E.ptr? x with
  |some (r,[],0)=>r.mem
  |_=>false)
 |[]=>false
def cxA (P:Program) (E:St) (o:Oper):Option (List AV×Bool):=J9 P (E.without (mN E o)) (bits 0 (GH o).tail) (List.replicate (bits 0 (GH o).tail).length none)
def uX (P:Program) (E:St) (o:Oper):Option (List AV):=(cxA P E o).map Prod.fst
def cxB (P:Program) (E:St) (o:Oper):Bool:=match cxA P E o with
 |some (_,b)=>b
 |none=>false
theorem ABV {o:Oper} (h:uW E o=true):∃t x l,GH o=(t,x)::l/\E.ptr? x=some (mN E o,[],0)/\(mN E o).mem=true:=by
 unfold uW at h;unfold mN;split at h
 ·rename_i t x l hl;split at h
  ·rename_i r hp;refine⟨t,x,l,hl,?_,?_⟩
   ·simp only[HO,hp,Bk]
   simpa only[HO,hp,Bk]using h
  cases h
 cases h
theorem zJ {p:Prop} {o:Oper} (h:uX P E o=some as) (hc:cxB P E o=true\/p):∃c,J9 P (E.without (mN E o)) (bits 0 (GH o).tail) (List.replicate (bits 0 (GH o).tail).length none)=some (as,c)/\(c=true\/p):=by
 unfold uX cxB at*
 cases hs:cxA P E o with
 |none=>rw[hs]at h;cases h
 |some y=>
  obtain⟨as',c⟩:=y;rw[hs]at h hc;simp only[B9]at h hc
  injection h with h
  subst h;exact⟨c,hs,hc⟩
theorem ADy {l:List AV} {n:Nat} {x:Option α} (h:x.bind kk=some r) {enc:α->SV} {b:List TV} (e:∀v,x=some v->AI P (P2 (oA ops i)) (.ext b::l) (enc v) (.ext (fin v)::List.replicate n .gone)) (d:∀v,(fin v).length=b.length) (hk:∀v,x=some v->kk v=some r->RW P N ops (i+1) (((E.setRoot (mN E (oA ops i)) (fin v)).bump (mN E (oA ops i))).put (oA ops i).dst (enc v)) Q) (f:uX P E (oA ops i)=some l:=by kernel_rfl) (hb:E.boxes (mN E (oA ops i))=some b:=by kernel_rfl) (hc:cxB P E (oA ops i)=true\/∀v,Bo (enc v)=false/\AJ (fin v)=false:=by exact .inl (by kernel_rfl)) (ho:(Rb P ops E i&&SQ P N (oA ops i)&&uW E (oA ops i))=true:=by kernel_rfl):RW P N ops i E Q:=by
 obtain⟨v,hv,h⟩:=Av.1 h;simp only[An]at ho;obtain⟨h1,h2⟩:=Ij ho.1.1;obtain⟨args,tys,h3,h4,h5,h6⟩:=OC ho.1.2;obtain⟨t,x0,l0,h7,h8,h9⟩:=ABV ho.2;obtain⟨c,h10,h11⟩:=zJ f hc;unfold RW;rw[GR h1];intro w0 FA UA w a blk FS US hr hF hU;simp only[wpList,Cv hr h2,BR];refine .inl (mV hr hF hU h3 h4 h5 (x:=x0) (l:=bits 0 (GH (oA ops i)).tail) ?_ h9 h8 hb (d v) h10 (h11.imp id (λh=>h v)) (e v hv) λw' v' blk' FS' US' k1 k2 k3=>hk v hv h _ _ _ _ _ _ _ _ k1 k2 k3);rw[P4,<-h6,h7];rfl
theorem ADC {ts:List Nat} {l:List AV} {n:Nat} {x:Option α} (h:x.bind kk=some r) {enc:α->SV} {b:List TV} (e:∀v,x=some v->AI P (P2 (oA ops i)) (.ext b::l) (enc v) (.ext (fin v)::List.replicate n .gone)) (d:∀v,(fin v).length=b.length) (hk:∀v,x=some v->kk v=some r->KW P N ops ts (i::dn) (((E.setRoot (mN E (oA ops i)) (fin v)).bump (mN E (oA ops i))).put (oA ops i).dst (enc v)) Q) (f:uX P E (oA ops i)=some l:=by kernel_rfl) (hb:E.boxes (mN E (oA ops i))=some b:=by kernel_rfl) (hc:cxB P E (oA ops i)=true\/∀v,Bo (enc v)=false/\AJ (fin v)=false:=by exact .inl (by kernel_rfl)) (ho:(Rb P ops E i&&SQ P N (oA ops i)&&uW E (oA ops i)&&ts.contains i)=true:=by kernel_rfl):KB P N ops ts dn i E Q:=by
 obtain⟨v,hv,h⟩:=Av.1 h;simp only[An]at ho;obtain⟨h1,h2⟩:=Ij ho.1.1.1;obtain⟨args,tys,h3,h4,h5,h6⟩:=OC ho.1.1.2;obtain⟨t,x0,l0,h7,h8,h9⟩:=ABV ho.1.2;obtain⟨c,h10,h11⟩:=zJ f hc;intro w0 FA UA w a blk FS US hr hF hU;unfold wpOp;simp only[Jl h1,Cv hr h2,BR];refine .inl (mV hr hF hU h3 h4 h5 (x:=x0) (l:=bits 0 (GH (oA ops i)).tail) ?_ h9 h8 hb (d v) h10 (h11.imp id (λh=>h v)) (e v hv) λw' v' blk' FS' US' k1 k2 k3=>⟨λht=>(by rw[ho.2]at ht;cases ht),_,_,_,_,hk v hv h,k1,k2,k3⟩);rw[P4,<-h6,h7];rfl
theorem wc {c:Operand} {x y:Code} (h:(bif b then tx else ty)=some r) (ht:tx=some r->Wp P N x E Q) (hf:ty=some r->Wp P N y E Q) (hc:E.cell1 P 0 c=some (.bool b):=by kernel_rfl):Wp P N (.cond c x y) E Q:=Wp.c h ht hf hc
theorem wt {c:Operand} {x y:Code} (ht:Wp P N x E Q) (hc:E.cell1 P 0 c=some (.bool true):=by kernel_rfl):Wp P N (.cond c x y) E Q:=ADt ht hc
theorem wf {c:Operand} {x y:Code} (hf:Wp P N y E Q) (hc:E.cell1 P 0 c=some (.bool false):=by kernel_rfl):Wp P N (.cond c x y) E Q:=ADu hf hc
theorem rsz {rs:List ResultVar} {a:SV} (h:(Ef P E rs).map (λz=>EU z.1)=some a):∃ss E',Ef P E rs=some (ss,E')/\EU ss=a:=by
 obtain⟨z,h1,h2⟩:=Be.1 h;exact⟨z.1,z.2,h1,h2⟩
theorem rsx {rt:Root} {rs:List ResultVar} {b:SV} {a:List TV} (h:(Ef P E rs).map (λz=>(EU z.1,z.2.boxes rt))=some (b,some a)):∃ss E',Ef P E rs=some (ss,E')/\EU ss=b/\E'.boxes rt=some a:=by
 obtain⟨z,h1,h2⟩:=Be.1 h
 injection h2 with h3 h4
 exact⟨z.1,z.2,h1,h3,h4⟩
theorem gkx {f:FuncId} {c:Code} {a cells':List TV} {b:SV} (hf:P.funcs[f]?=some fn) (hb:fn.body=some c) (hN:fn.ntmps=N) (h:Wp P N c (DL (.ext a::as)) λe E=>(e= .normal\/e= .ret)/\∃ss E',Ef P E fn.results.toList=some (ss,E')/\EU ss=b/\E'.boxes (.ext 0)=some cells') (d:cells'.isEmpty=false:=by rfl):AI P f (.ext a::as) b (.ext cells'::List.replicate as.length .gone):=uR hf hb (by rw[hN];exact h) d
theorem gk {f:FuncId} {c:Code} {a:SV} (hf:P.funcs[f]?=some fn) (hb:fn.body=some c) (hN:fn.ntmps=N) (h:Wp P N c (DL as) λe E=>(e= .normal\/e= .ret)/\∃ss E',Ef P E fn.results.toList=some (ss,E')/\EU ss=a):AI P f as a (List.replicate as.length .gone):=yZ hf hb (by rw[hN];exact h)
theorem oC:∀t:TV,(MJ t).isSl=t.isSl:=by intro t;cases t<;>rfl
theorem K7:∀(cs:List TV) (j:Nat),(BQ cs)[j]?=cs[j]?.map MJ
 |[],j=>by simp[BQ]
 |t::ts,0=>by simp[BQ]
 |t::ts,j+1=>by simpa[BQ]using K7 ts j
theorem WU:∀(q:List Nat) (cs:List TV),Ca (BQ cs) q=(Ca cs q).map BQ
 |[],cs=>rfl
 |c::q,cs=>by
  simp only[Ca,K7]
  cases cs[c]? with
  |none=>rfl
  |some t=>
   cases t with
   |sl o e sz cells=>exact WU q cells
   |_=>rfl
def pM:TV->List TV->TV
 | .sl _ e s _,row=> .sl false e s row
 |t,_=>t
def Zx (cs:List TV) (j:Nat) (a:List TV):List TV:=match cs[j]? with
 |some t=>cs.set j (pM t a)
 |none=>cs
theorem iR {cs:List TV} {j e s:Nat} {a:List TV} (h:cs[j]?=some (.sl true e s a)) (c:Nat):(Zx cs j (BQ a))[c]?=if c=j then some (.sl false e s (BQ a))else cs[c]? :=by
 have hj:=(Ah.1 h).1;simp only[Zx,h,pM];rw[Cl];by_cases hc:j=c
 ·subst hc;simp[hj]
 rw[Az hc,Az (λe=>hc e.symm)]
theorem zC {r1:List TV} {cs:List TV} {j e s:Nat} {a:List TV} (h:cs[j]?=some (.sl true e s a)) {q:List Nat} (hq:Ca cs q=some r1) (i:Nat):
  ∃r2,Ca (Zx cs j (BQ a)) q=some r2/\(r1[i]?.isSome=true->r2[i]?.isSome=true)/\(Lm r1[i]?=true->Lm r2[i]?=true):=by
 cases q with
 |nil=>
  simp only[Ca]at hq
  injection hq with hq
  subst hq;refine⟨_,rfl,?_,?_⟩
  ·rw[iR h];split
   ·intro _;rfl
   exact id
  rw[iR h];split
  ·intro _;rfl
  exact id
 |cons c q=>
  simp only[Ca,iR h];simp only[Ca]at hq;by_cases hc:c=j
  ·subst hc;rw[h]at hq;simp only at hq;rw[Ax rfl];simp only[WU,hq,B9];refine⟨_,rfl,?_,?_⟩
   ·rw[K7];simp
   rw[K7]
   cases r1[i]? with
   |none=>exact id
   |some t=>simp only[Lm,B9,oC];exact id
  rw[Az hc];exact⟨r1,hq,id,id⟩
theorem YE:∀{ts:List TV} {vs:List Value} {F U:List Nat} {j:Nat} {t:TV},B8 w ts vs F U->ts[j]?=some t->F.Nodup->(∀v F1 U1,CA w t v F1 U1->∃F2 U2,CA w t' v F2 U2/\J7 F1 U1 F2 U2)->
  ∃F' U',B8 w (ts.set j t') vs F' U'/\J7 F U F' U'
 |[],vs,F,U,j,t,h,hj,_,_=>by simp at hj
 |x::ts,vs,F,U,0,t,h,hj,hn,hk=>by
  simp at hj;subst hj;simp only[B8]at h;obtain⟨v,a,F1,F2,U1,U2,rfl,rfl,rfl,h1,h2⟩:=h;obtain⟨F1',U1',a1,a2⟩:=hk v F1 U1 h1;exact⟨F1'++F2,U1'++U2,by simp only[DY,B8];exact⟨v,a,F1',F2,U1',U2,rfl,rfl,rfl,a1,h2⟩,Sx hn a2 J7.refl⟩
 |x::ts,vs,F,U,j+1,t,h,hj,hn,hk=>by
  simp only[B8]at h;obtain⟨v,a,F1,F2,U1,U2,rfl,rfl,rfl,h1,h2⟩:=h;obtain⟨F2',U2',a1,a2⟩:=YE h2 (by simpa using hj) (Bu.1 hn).2.1 hk;exact⟨F1++F2',U1++U2',by simp only[Nj,B8];exact⟨v,a,F1,F2',U1,U2',rfl,rfl,rfl,h1,a1⟩,Sx hn J7.refl a2⟩
theorem ZD {a:Act} {blk:Root->Nat}:∀{ts:List TV} {vs:List Value} {F U:List Nat} {j:Nat} {t:TV},Da w a E blk ts vs F U->ts[j]?=some t->F.Nodup->(∀v F1 U1,CX w a E blk t v F1 U1->∃F2 U2,CX w a E blk t' v F2 U2/\J7 F1 U1 F2 U2)->
  ∃F' U',Da w a E blk (ts.set j t') vs F' U'/\J7 F U F' U'
 |[],vs,F,U,j,t,h,hj,_,_=>by simp at hj
 |x::ts,vs,F,U,0,t,h,hj,hn,hk=>by
  simp at hj;subst hj;obtain⟨v,b,F1,F2,U1,U2,rfl,rfl,rfl,h1,h2⟩:=h;obtain⟨F1',U1',a1,a2⟩:=hk v F1 U1 h1;exact⟨F1'++F2,U1'++U2,by rw[DY];exact⟨v,b,F1',F2,U1',U2,rfl,rfl,rfl,a1,h2⟩,Sx hn a2 J7.refl⟩
 |x::ts,vs,F,U,j+1,t,h,hj,hn,hk=>by
  obtain⟨v,b,F1,F2,U1,U2,rfl,rfl,rfl,h1,h2⟩:=h;obtain⟨F2',U2',a1,a2⟩:=ZD h2 (by simpa using hj) (Bu.1 hn).2.1 hk;exact⟨F1++F2',U1++U2',by rw[Nj];exact⟨v,b,F1,F2',U1,U2',rfl,rfl,rfl,h1,a1⟩,Sx hn J7.refl a2⟩
def frE (E:St) (r:Root) (j:Nat) (a:List TV):St:=match E.root r with
 |some cs=>E.setRoot r (Zx cs j a)
 |none=>E
theorem pL {a:Act} {r:Root} {cs:List TV} {j e s:Nat} {b:List TV} (hr:E.root r=some cs) (hj:cs[j]?=some (.sl true e s b)) (hh:r≠ .hand) (R:Root):C3 w w a a E (E.setRoot r (Zx cs j (BQ b))) blk blk R:=by
 have d:(E.setRoot r (Zx cs j (BQ b))).ver=E.ver:=by cases r<;>rfl
 have f:(E.setRoot r (Zx cs j (BQ b))).gen=E.gen:=by cases r<;>rfl
 have g:(Zx cs j (BQ b)).length=cs.length:=by simp[Zx,hj]
 have c:∀cs0,E.root R=some cs0->∃cs1,(E.setRoot r (Zx cs j (BQ b))).root R=some cs1/\∀q r1,Ca cs0 q=some r1->∀i:Nat,∃r2,Ca cs1 q=some r2/\(r1[i]?.isSome=true->r2[i]?.isSome=true)/\(Lm r1[i]?=true->Lm r2[i]?=true):=by
  intro cs0 h0;by_cases hR:R=r
  ·subst hR;rw[hr]at h0
   injection h0 with h0
   subst h0;refine⟨Zx cs j (BQ b),?_,λq r1 hq i=>zC hj hq i⟩
   cases R with
   |slot n=>
    simp only[St.root,St.setRoot,Cr,BR]at hr⊢
    injection hr with hr
    congr 1
    cases hs:E.slots n with
    |one t=>
     rw[hs]at hr;simp only[SV.cells]at hr;subst hr;have:(Zx [t] j (BQ b)).length=1:=g
     match hf:Zx [t] j (BQ b),this with
     |[x],_=>rfl
    |agg ts=>rfl
    |tup ss=>
     rw[hs]at hr;simp only[SV.cells]at hr;subst hr;simp at hj
   |box n=>simp[St.root,St.setRoot,Cr]
   |ext n=>simp[St.root,St.setRoot,Cr]
   |hand=>exact absurd rfl hh
  refine⟨cs0,?_,λq r1 hq i=>⟨r1,hq,id,id⟩⟩;rw[<-h0];cases r<;>cases R<;>simp only[St.root,St.setRoot,Cr]<;>first
   |exact absurd rfl hh
   |rfl
   |(rw[Az];intro e;exact hR (by rw[e]))
   |(rw[Az];intro e;injection e with e;exact hR (by rw[e]))
   |(rw[Az];intro e;cases e)
 constructor
 ·refine .inr ⟨by rw[d],λq i v h1 h2=>⟨h1,?_⟩,λq i ad hq h1 h2=>⟨h1,?_⟩⟩
  ·unfold St.place at h2⊢
   cases h0:E.root R with
   |none=>rw[h0]at h2;cases h2
   |some cs0=>
    rw[h0]at h2;obtain⟨cs1,k1,k2⟩:=c cs0 h0;simp only[Aa]at h2
    cases hc:Ca cs0 q with
    |none=>rw[hc]at h2;cases h2
    |some r1=>
     rw[hc]at h2;obtain⟨r2,k3,_,k4⟩:=k2 q r1 hc i;rw[k1];simp only[Aa,k3];exact k4 h2
  unfold St.place at h2⊢
  cases h0:E.root R with
  |none=>rw[h0]at h2;cases h2
  |some cs0=>
   rw[h0]at h2;obtain⟨cs1,k1,k2⟩:=c cs0 h0;simp only[Aa]at h2
   cases hc:Ca cs0 q with
   |none=>rw[hc]at h2;cases h2
   |some r1=>
    rw[hc]at h2;obtain⟨r2,k3,k4,_⟩:=k2 q r1 hc i;rw[k1];simp only[Aa,k3];exact k4 h2
 refine .inr ⟨by rw[f],λi ad h1 h2=>⟨h1,?_⟩⟩;unfold St.place at h2⊢
 cases h0:E.root R with
 |none=>rw[h0]at h2;cases h2
 |some cs0=>
  rw[h0]at h2;obtain⟨cs1,k1,k2⟩:=c cs0 h0;simp only[Aa]at h2;obtain⟨r2,k3,k4,_⟩:=k2 [] cs0 rfl i;rw[k1];simp only[Aa,k3];exact k4 h2
section
variable {w0:Base} {a:Act}
theorem Db.freeze {r:Root} (h:Db w0 FA UA N w a E blk FS US) {cs:List TV} {j e s:Nat} {c:List TV} (hr:E.root r=some cs) (hj:cs[j]?=some (.sl true e s c)) (hh:r≠ .hand):
  ∃FS' US',Db w0 FA UA N w a (E.setRoot r (Zx cs j (BQ c))) blk FS' US'/\FS' .hand=FS .hand/\US' .hand=US .hand:=by
 have x:=pL (w:=w) (a:=a) (blk:=blk) hr hj hh;have f:Zx cs j (BQ c)=cs.set j (.sl false e s (BQ c)):=by simp only[Zx,hj,pM]
 have l:∀v F1 U1,CA w (.sl true e s c) v F1 U1->∃F2 U2,CA w (.sl false e s (BQ c)) v F2 U2/\J7 F1 U1 F2 U2:=λv F1 U1 h1=>ACd h1 (vG.s rfl)
 have y:∃F' U',J7 (FS r) (US r) F' U'/\(∀n,r= .slot n->EJ w a (E.setRoot r (Zx cs j (BQ c))) blk ((E.slots n).withCells (Zx cs j (BQ c))) (a.eval (.tmp n)) F' U')/\
   (r.mem=true->∃d T F,w.heap[blk r]?=some (.cells d T (0,0))/\B8 w (Zx cs j (BQ c)) d.toList F U'/\F'=blk r::F):=by
  cases r with
  |slot n=>
   simp only[St.root]at hr
   injection hr with hr
   have hs:=I1 x (h.slot n) (λ_ _=>rfl) (λ_ _=>rfl)
   cases g:E.slots n with
   |one t=>
    rw[g]at hr hs;simp only[SV.cells]at hr;subst hr;have z:j=0:=by
     have:=(Ah.1 hj).1;simpa using this
    subst z;simp at hj;subst hj;simp only[EJ]at hs;obtain⟨F2,U2,k1,k2⟩:=l _ _ _ hs.1;refine⟨F2,U2,k2,λm hm=>?_,λhm=>by cases hm⟩
    injection hm with hm
    subst hm;rw[g,f];simp only[DY,SV.withCells,EJ];exact⟨k1,λ_=>hs.2 rfl⟩
   |agg ts=>
    rw[g]at hr hs;simp only[SV.cells]at hr;subst hr;simp only[EJ]at hs;obtain⟨vs,k0,k1⟩:=hs;obtain⟨F2,U2,k2,k3⟩:=ZD (t':= .sl false e s (BQ c)) k1 hj (h.nodup _) l;refine⟨F2,U2,k3,λm hm=>?_,λhm=>by cases hm⟩
    injection hm with hm
    subst hm;rw[g,f];simp only[SV.withCells,EJ];rw[f]at k2;exact⟨vs,k0,k2⟩
   |tup ss=>
    rw[g]at hr;simp only[SV.cells]at hr;subst hr;simp at hj
  |hand=>exact absurd rfl hh
  |box n=>
   rcases h.box (.box n) rfl with⟨k,_⟩|⟨cs0,d,T,F,k1,k2,k3,k4⟩
   ·simp only[St.root]at hr;rw[k]at hr;cases hr
   simp only[St.root]at hr;rw[k1]at hr
   injection hr with hr
   subst hr;have i:=h.nodup (.box n);rw[k4]at i;obtain⟨o,p⟩:=Dd.1 i;obtain⟨F2,U2,k5,k6⟩:=YE (t':= .sl false e s (BQ c)) k3 hj p l;refine⟨blk (.box n)::F2,U2,?_,λm hm=>(by cases hm),λ_=>⟨d,T,F2,k2,by rw[f];exact k5,rfl⟩⟩;rw[k4];refine⟨k6.1.cons_cons _,λb hb=>?_⟩
   rcases k6.2 b hb with q|⟨q1,q2⟩
   ·exact .inl q
   refine .inr ⟨by simp[q1],λhc=>?_⟩
   rcases B7.1 hc with rfl|hc
   ·exact o q1
   exact q2 hc
  |ext n=>
   rcases h.box (.ext n) rfl with⟨k,_⟩|⟨cs0,d,T,F,k1,k2,k3,k4⟩
   ·simp only[St.root]at hr;rw[k]at hr;cases hr
   simp only[St.root]at hr;rw[k1]at hr
   injection hr with hr
   subst hr;have i:=h.nodup (.ext n);rw[k4]at i;obtain⟨o,p⟩:=Dd.1 i;obtain⟨F2,U2,k5,k6⟩:=YE (t':= .sl false e s (BQ c)) k3 hj p l;refine⟨blk (.ext n)::F2,U2,?_,λm hm=>(by cases hm),λ_=>⟨d,T,F2,k2,by rw[f];exact k5,rfl⟩⟩;rw[k4];refine⟨k6.1.cons_cons _,λb hb=>?_⟩
   rcases k6.2 b hb with q|⟨q1,q2⟩
   ·exact .inl q
   refine .inr ⟨by simp[q1],λhc=>?_⟩
   rcases B7.1 hc with rfl|hc
   ·exact o q1
   exact q2 hc
 obtain⟨F',U',hl,h0,h2⟩:=y
 have u:∀b∈F',b∈FS r:=λb hb=>hl.1.subset hb
 refine⟨Cr FS r F',Cr US r U',?_,by rw[B3 (λe=>hh e.symm)],by rw[B3 (λe=>hh e.symm)]⟩;have hF:∀R b,b∈Cr FS r F' R->b∈FS R:=by
  intro R b hb;by_cases hR:R=r
  ·subst hR;rw[BY]at hb;exact u b hb
  rw[B3 hR]at hb;exact hb
 have hU:∀R b,b∈Cr US r U' R->b∈US R\/(R=r/\b∈FS r/\b∉F'):=by
  intro R b hb;by_cases hR:R=r
  ·subst hR;rw[BY]at hb
   rcases hl.2 b hb with q|⟨q1,q2⟩
   ·exact .inl q
   exact .inr ⟨rfl,q1,q2⟩
  rw[B3 hR]at hb;exact .inl hb
 constructor
 ·intro n;by_cases hn:r= .slot n
  ·subst hn;rw[BY,BY];have:=h0 n rfl;simpa only[St.setRoot,Cr,BR]using this
  rw[B3 (λe=>hn e.symm),B3 (λe=>hn e.symm)];have h1:(E.setRoot r (Zx cs j (BQ c))).slots n=E.slots n:=by
   cases r with
   |slot m=>
    simp only[St.setRoot,Cr];rw[Az];intro e;exact hn (by rw[e])
   |_=>rfl
  rw[h1];exact I1 x (h.slot n) (λ_ _=>rfl) (λ_ _=>rfl)
 ·intro R hm;by_cases hR:R=r
  ·subst hR;right;obtain⟨d,T,F,k1,k2,k3⟩:=h2 hm;refine⟨_,d,T,F,?_,k1,by rw[BY];exact k2,by rw[BY,k3]⟩
   cases R with
   |slot n=>cases hm
   |hand=>cases hm
   |box n=>simp[St.setRoot,Cr]
   |ext n=>simp[St.setRoot,Cr]
  rw[B3 hR,B3 hR];have h1:(E.setRoot r (Zx cs j (BQ c))).boxes R=E.boxes R:=by
   cases r<;>simp only[St.setRoot,Cr]<;>first
    |rfl
    |(rw[Az hR])
  rw[h1];exact h.box R hm
 ·have:(E.setRoot r (Zx cs j (BQ c))).boxes .hand=E.boxes .hand:=by
   cases r<;>simp only[St.setRoot,Cr]<;>first
    |exact absurd rfl hh
    |rfl
    |(rw[Az (by simp)])
  rw[this];exact h.nohand
 ·intro R;by_cases hR:R=r
  ·subst hR;rw[BY];exact hl.1.nodup (h.nodup R)
  rw[B3 hR];exact h.nodup R
 ·exact λR S h3 b hb hb'=>h.dis R S h3 b (hF R b hb) (hF S b hb')
 ·intro R S b hb hb'
  rcases hU S b hb' with q|⟨rfl,q1,q2⟩
  ·exact h.disU R S b (hF R b hb) q
  by_cases hR:R=S
  ·subst hR;rw[BY]at hb;exact q2 hb
  exact h.dis R S hR b (hF R b hb) q1
 ·exact λR b hb=>h.inF R b (hF R b hb)
 ·intro R b hb
  rcases hU R b hb with q|⟨rfl,q1,_⟩
  ·exact h.inU R b q
  obtain⟨q2,q3⟩:=h.inF R b q1;exact⟨.inr q2,q3⟩
 ·exact h.disA
 ·exact h.os
 ·exact h.tape
 ·exact h.output
 ·exact h.size
 ·exact h.keep
 ·exact h.len
 ·exact h.nodef
 ·exact h.xblk
 ·rw[E9];exact h.ambB
 ·rw[E9];exact h.ambI
 ·rw[I4];exact h.frz
 ·exact h.ambF
 rw[E9];exact h.pin
end
theorem zE {r:Root} (h:R7 E r j=some row):∃cs e s,E.root r=some cs/\cs[j]?=some (.sl true e s row)/\frE E r j (BQ row)=E.setRoot r (Zx cs j (BQ row)):=by
 obtain⟨cs,e,s,h1,h2,_⟩:=R6 h;exact⟨cs,e,s,h1,h2,by unfold frE;rw[h1]⟩
def XH:Root->Bool
 | .hand=>false
 |_=>true
theorem TA {r:Root} (h:XH r=true):r≠ .hand:=by rintro rfl;cases h
theorem RW.fz (r:Root) (j:Nat) (hs:BQ row=row') (h:RW P N ops i (frE E r j row') Q) (ho:R7 E r j=some row:=by kernel_rfl) (hh:XH r=true:=by rfl):RW P N ops i E Q:=by
 intro w0 FA UA w a blk FS US hr hF hU;obtain⟨cs,e,s,h1,h2,h3⟩:=zE ho;obtain⟨FS',US',k1,k2,k3⟩:=hr.freeze h1 h2 (TA hh);rw[<-hs,h3]at h;exact h _ _ _ _ _ _ _ _ k1 (by rw[k2,hF]) (by rw[k3,hU])
theorem KW.fz {ts:List Nat} (r:Root) (j:Nat) (hs:BQ row=row') (h:KW P N ops ts dn (frE E r j row') Q) (ho:R7 E r j=some row:=by kernel_rfl) (hh:XH r=true:=by rfl):KW P N ops ts dn E Q:=by
 intro hq hc w0 FA UA w a blk FS US hr hF hU;obtain⟨cs,e,s,h1,h2,h3⟩:=zE ho;obtain⟨FS',US',k1,k2,k3⟩:=hr.freeze h1 h2 (TA hh);rw[<-hs,h3]at h;exact h hq hc _ _ _ _ _ _ _ _ k1 (by rw[k2,hF]) (by rw[k3,hU])
theorem Wp.fz {c:Code} (r:Root) (j:Nat) (hs:BQ row=row') (h:Wp P N c (frE E r j row') Q) (ho:R7 E r j=some row:=by kernel_rfl) (hh:XH r=true:=by rfl):Wp P N c E Q:=by
 intro w0 FA UA w a blk FS US hr hF hU;obtain⟨cs,e,s,h1,h2,h3⟩:=zE ho;obtain⟨FS',US',k1,k2,k3⟩:=hr.freeze h1 h2 (TA hh);rw[<-hs,h3]at h;exact h _ _ _ _ _ _ _ _ k1 (by rw[k2,hF]) (by rw[k3,hU])
def St.fzs (E:St) (f:Option Nat):St:={E with fz:=f}
theorem n8 {a:Act} {f:Option Nat} (r:Root):C3 w w a a E (E.fzs f) blk blk r:=by
 have hp:∀q j,(E.fzs f).place r q j=E.place r q j:=λq j=>by cases r<;>rfl
 exact⟨.inr ⟨rfl,λq j v h1 h2=>⟨h1,by rw[hp];exact h2⟩,λq j ad _ h1 h2=>⟨h1,by rw[hp];exact h2⟩⟩,.inr ⟨rfl,λj ad h1 h2=>⟨h1,by rw[hp];exact h2⟩⟩⟩
theorem Db.fzs {w0:Base} {a:Act} (h:Db w0 FA UA N w a E blk FS US) (f:Option Nat) (hf:∀n,f=some n->Frz w0 a n):Db w0 FA UA N w a (E.fzs f) blk FS US where
 slot:=λn=>I1 n8 (h.slot n) (λ_ _=>rfl) (λ_ _=>rfl)
 box:=h.box
 nohand:=h.nohand
 nodup:=h.nodup
 dis:=h.dis
 disU:=h.disU
 inF:=h.inF
 inU:=h.inU
 disA:=h.disA
 os:=h.os
 tape:=h.tape
 output:=h.output
 size:=h.size
 keep:=h.keep
 len:=h.len
 nodef:=h.nodef
 xblk:=h.xblk
 ambB:=h.ambB
 ambI:=h.ambI
 frz:=hf
 ambF:=h.ambF
 pin:=h.pin
theorem r8 (n:Nat):(2*n+1)/2=n:=by omega
theorem r7 (n:Nat):¬(2*n+1) %2=0:=by omega
def ABb (o:Oper):Bool:=match o.op with
 | .buildSlice t len parts=>Nat.beq len 0&&Nat.beq parts.size 0
 |_=>false
theorem ACb {a:Act} {nx:Next} {w':World} {o:Oper} (hb:ABb o=true) (hd:o.dst=some d) (hN:d<N) (hs:CQ P N false E o=some E') (hr:(execOp a.eval o).run P w= .ok nx w'):∃B,nx= .value (.slice B 0 0):=by
 unfold ABb at hb;split at hb
 ·rename_i t len parts ho;rw[An]at hb;have h1:=B5 hb.1;have h2:=B5 hb.2;subst h1;have h3:parts= #[]:=Array.eq_empty_of_size_eq_zero h2;subst h3;simp only[CQ,hd,Ax hN,ho,Md]at hs;split at hs
  ·rename_i e hu;split at hs
   ·rename_i zs ss hz b;obtain⟨i,z,hi,c,f,g⟩:=Ke (w:=w) hz;simp[execOp,ho,Instr.buildSlice,run_underlying hu,sizeOf,typeInfo,hi,newRow,Instr.fill]at hr;obtain⟨hr,_⟩:=hr;exact⟨_,hr.symm⟩
   cases hs
  cases hs
 cases hb
def wB (x:Operand):Nat:=match x with
 | .tmp n=>n
 |_=>0
theorem qP {ts:List Nat} (h:KW P N ops ts (i::dn) (((CQ P N false E (oA ops i)).getD E).fzs (some (2*((oA ops i).dst.getD 0)+1))) Q) (hs:(CQ P N false E (oA ops i)).isSome=true:=by kernel_rfl) (hk:(Rb P ops E i&&ABb (oA ops i)&&GM N (oA ops i))=true:=by kernel_rfl):KB P N ops ts dn i E Q:=by
 have hs':=getD_some (a:=E) hs;generalize hE:(CQ P N false E (oA ops i)).getD E=E' at h hs';simp only[An]at hk;obtain⟨h1,h2⟩:=Ij hk.1.1;obtain⟨d,h3,_,h4⟩:=Fs hk.2;rw[h3]at h;simp only[Bk]at h;have b:kp (oA ops i)=true:=by
  have:=hk.1.2;unfold ABb at this;unfold kp;split at this
  ·rename_i ho;rw[ho]
  cases this
 intro w0 FA UA w a blk FS US hr hF hU;unfold wpOp;simp only[Jl h1,Cv hr h2,BR];obtain⟨nx,w',v,blk',FS',US',k1,k2,k3,k4,k5,k6⟩:=Rk hr hF hU hs';obtain⟨B,hB⟩:=ACb (N:=N) hk.1.2 h3 h4 hs' k1;have hv:v= .slice B 0 0:=by
  rcases k2 with k2|⟨k2,_⟩
  ·rw[hB]at k2;injection k2 with k2;exact k2.symm
  rw[hB]at k2;cases k2
 refine .inl ?_;unfold Oper.wp;rw[k1,hB];refine⟨λ_=>k6 b,_,blk',FS',US',h,?_,k4,k5⟩;rw[hv]at k3;refine k3.fzs _ (λn hn=>?_)
 injection hn with hn
 subst hn;unfold Frz;rw[Az (r7 d),r8 d,h3];refine⟨B,?_⟩;have:=k3.len;simp only[Act.eval,Act.put];rw[EP];have hl:=hr.len;have c:d<a.tmps.size:=Bg h4 hl;simp[Array.getElem?_setIfInBounds_self,c]
theorem KB.a {ts:List Nat} (hs:CQ P N false E (oA ops i)=some E') (h:KW P N ops ts (i::dn) (E'.fzs none) Q) (hk:(Rb P ops E i&&ABc (oA ops i)&&Nat.beq (H6 (oA ops i)).1 (H6 (oA ops i)).2.1&&GM N (oA ops i))=true:=by kernel_rfl) (hx:(H6 (oA ops i)).2.2.1= .tmp (wB (H6 (oA ops i)).2.2.1):=by kernel_rfl) (hz:E.fz=some (2*wB (H6 (oA ops i)).2.2.1+1):=by kernel_rfl):KB P N ops ts dn i E Q:=by
 simp only[An]at hk;obtain⟨⟨⟨h0,h5⟩,h6⟩,h7⟩:=hk;obtain⟨h1,h2⟩:=Ij h0;obtain⟨d,h3,_,h4⟩:=Fs h7;have c:=B5 h6;have ho:=sL h5;rw[<-c]at ho;intro w0 FA UA w a blk FS US hr hF hU;unfold wpOp;simp only[Jl h1,Cv hr h2,BR];have he:Ns P E d (H6 (oA ops i)).1 (H6 (oA ops i)).2.2.1 (H6 (oA ops i)).2.2.2=some E':=by
  unfold CQ at hs;rw[h3]at hs;simpa only[Ax h4,ho,BR]using hs
 obtain⟨nx,w',v,blk',FS',US',k1,k2,k3,k4,k5,_,k6⟩:=V0 hr hF hU ho h3 h4 he;have b:=hr.frz _ hz;unfold Frz at b;rw[Az (r7 _),r8,<-hx]at b;obtain⟨B,hB⟩:=b;refine .inl ?_;unfold Oper.wp;rw[k1]
 rcases k2 with rfl|⟨rfl,rfl⟩
 ·exact⟨λ_=>k6 B hB,_,blk',FS',US',h,k3.fzs none (λn hn=>by cases hn),k4,k5⟩
 exact⟨λ_=>k6 B hB,_,blk',FS',US',h,k3.fzs none (λn hn=>by cases hn),k4,k5⟩
def rm (k:IntKind) (a b:Int):Option Int:=if b=0 then none else some (a.tmod b)
def ban (k:IntKind) (a b:Int):Int:=k.wrap (BitVec.ofInt k.bits a&&&BitVec.ofInt k.bits b).toNat
def bxo (k:IntKind) (a b:Int):Int:=k.wrap (BitVec.ofInt k.bits a^^^BitVec.ofInt k.bits b).toNat
def ABI (P:Program) (E:St) (o:Oper) (k:IntKind) (q:Bool):Option (Int×Int):=match o.op with
 | .binOp op t x y _=>bif(match op with| .rem=>!q| .quo=>q|_=>false)then(match E.cell1 P t x,E.cell1 P t y with
  |some (.int k' a),some (.int k'' b)=>bif decide (k'=k)&&decide (k''=k)then some (a,b)else none
  |_,_=>none)else none
 |_=>none
theorem prm {o:Oper} {a b v:Int} (hx:rm k a b=some v) (hc:ABI P E o k false=some (a,b):=by kernel_rfl):Bm P E o=some (.one (.int k v)):=by
 unfold ABI at hc;split at hc
 ·rename_i op t x y t' ho;cases op<;>simp only[AC,Ae,Ac,reduceCtorEq]at hc;split at hc
  ·rename_i k' a' k2 b' h1 h2
   cases hk:(decide (k'=k)&&decide (k2=k))with
   |false=>rw[hk]at hc;cases hc
   |true=>
    rw[hk]at hc;simp only[Ae]at hc
    injection hc with hc
    injection hc with hc1 hc2
    rw[An]at hk;have e1:=Ik hk.1;have e2:=Ik hk.2;subst hc1 hc2 e1 e2;unfold rm at hx;split at hx
    ·cases hx
    rename_i hb
    injection hx with hx
    subst hx;simp only[Bm,ho,h1,h2,Wr,BR,WZ,yU,Az hb,B9]
  cases hc
 cases hc
def jG (P:Program) (f:FuncId) (as:List AV) (a:List TV):Prop:=∀(w:World) (vs:List Value) (FA UA:List Nat),La w as vs FA UA->FA.Nodup->(∀b∈FA,b∉UA)->(∀b∈FA++UA,b<w.heap.size)->
  Calls P f vs.toArray w λe w'=>∃v F U G V,e= .returned v/\AAb w w' FA UA (.tup []) [.ext a] [v] (.tuple #[]) F U G V
theorem gkp {f:FuncId} {c:Code} {cells:List TV} (hf:P.funcs[f]?=some fn) (hb:fn.body=some c) (hN:fn.ntmps=N) (h:Wp P N c (DL as) λe E=>(e= .normal\/e= .ret)/\∃t r,fn.results.toList=[.tmp t]/\E.ptr? (.tmp t)=some (r,[],0)/\r.mem=true/\E.boxes r=some cells) (l:cells.isEmpty=false:=by rfl):jG P f as cells:=by
 subst hN;intro w vs FA UA ha m j o;obtain⟨blk,FS,US,hr,hF,hU⟩:=Sa (N:=fn.ntmps) ha m j o (A:=QZ.none) (fz:=none) trivial (λb hb=>by cases hb);refine calls_of_wp hf hb (wp_mono (h _ _ _ _ _ _ _ _ hr hF hU) ?_);rintro e a w' ⟨E,blk',FS',US',⟨he,t,r,h1,h2,h3,h4⟩,k3,h5,h6⟩;obtain⟨u,ad,d,p⟩:=KK k3 h2;have s:ad=⟨blk' r,0,none⟩:=by
  cases r with
  |slot n=>cases h3
  |hand=>cases h3
  |box n=>simp only[pa]at d;injection d with d;rw[<-d];simp[Addr.add]
  |ext n=>simp only[pa]at d;injection d with d;rw[<-d];simp[Addr.add]
 obtain⟨g,T,F3,b2,b3,b4⟩:∃g T F3,w'.heap[blk' r]?=some (.cells g T (0,0))/\B8 w' cells g.toList F3 (US' r)/\FS' r=blk' r::F3:=by
  rcases k3.box r h3 with⟨q,_⟩|⟨cs,g,T,F3,q1,q2,q3,q4⟩
  ·rw[h4]at q;cases q
  rw[h4]at q1
  injection q1 with q1
  subst q1;exact⟨g,T,F3,q2,q3,q4⟩
 have hne':cells≠ []:=by rintro rfl;cases l
 have k:(fn.results.toList.mapM (OK P a.tmps)).run P w'= .ok [a.eval (.tmp t)] w':=by
  rw[h1,List.mapM_cons];simp[OK,Act.eval]
 have i:a.defers=[]/\∃v,(results fn a.tmps).run P w'= .ok v w'/\∃v' F U G V,Ending.returned v= .returned v'/\AAb w w' FA UA (.tup []) [.ext cells] [v'] (.tuple #[]) F U G V:=by
  refine⟨k3.nodef,_,Oy k,a.eval (.tmp t),[],[],FS' r,US' r,by simp,?_⟩
  exact{
   res:=by simp only[Xj];exact⟨[],rfl,by simp[PD]⟩
   fin:=⟨_,[],FS' r,[],US' r,[],rfl,by simp,by simp,⟨blk' r,g,T,F3,by rw[p,s],b2,b3,b4,hne'⟩,⟨rfl,rfl,rfl⟩⟩
   nodup:=by simpa using k3.nodup r
   dis:=λb hb hb'=>k3.disU r r b (by simpa using hb) (by simpa using hb')
   inF:=λb hb=>k3.inF r b (by simpa using hb)
   inU:=λb hb=>k3.inU r b (by simpa using hb)
   os:=k3.os
   tape:=k3.tape
   output:=k3.output
   size:=k3.size
   keep:=λb hb hF=>k3.keep b hb hF (λe=>by cases e)}
 rcases he with rfl|rfl
 ·exact i
 exact i
section
variable {w0:Base} {a:Act}
theorem zP {f:FuncId} {l:List (Bool×TypeId×Operand)} {ss:List (Option SV)} {K:Act->World->Prop} {Q:Exit->Act->World->Prop} (h:Db w0 FA UA N w a E blk FS US) (hF:FS .hand=[]) (hU:US .hand=[]) {o:Oper} {args:Array Operand} {tys:Array TypeId} (ho:o.op= .call {callee:= .value (.func f),args:=args,argTypes:=tys}) (hf:bQ P f) (hd:o.dst=some d) (hN:d<N) (hl:l.map (λx=>x.2.2)=args.toList) {i:List TV} (hg:jG P f as i) {c:Bool} (h1:ME P E l=some (ss,E1)) (h2:J9 P E1 l ss=some (as,c)) (h3:c=true\/AJ i=false) (hK:∀w' v blk' FS' US',Db w0 FA UA N w' (a.put (some d) v) (E1.newBox d i) blk' FS' US'->FS' .hand=[]->US' .hand=[]->K (a.put (some d) v) w'):o.wp P a w K Q:=by
 obtain⟨FS1,US1,F,U,k1,k2,k3,k4,_⟩:=Qa h h1;rw[hF,AA]at k3;rw[hU,AA]at k4;obtain⟨U',k5,k6⟩:=Ls k2 k1 h2;have a0:l.map (λx=>a.eval x.2.2)=(args.map a.eval).toList:=by
  rw[P9,<-hl,FU];rfl
 rw[a0]at k5;have p:∀b∈F,b∉U':=by
  intro b hb hb';rw[<-k3]at hb
  rcases k6 b hb' with h4|⟨r,h4⟩|⟨_,r,h5,h4⟩
  ·rw[<-k4]at h4;exact k2.disU .hand .hand b hb h4
  ·exact k2.disU .hand r b hb h4
  exact k2.dis .hand r (Ft h5) b hb h4
 have k:=hg w _ F U' k5 (by rw[<-k3];exact k2.nodup .hand) p (by
  intro b hb
  rcases Ai.1 hb with hb|hb
  ·exact(k2.inF .hand b (by rw[k3];exact hb)).2
  rcases k6 b hb with h4|⟨r,h4⟩|⟨_,r,h5,h4⟩
  ·exact(k2.inU .hand b (by rw[k4];exact h4)).2
  ·exact(k2.inU r b h4).2
  exact(k2.inF r b h4).2)
 unfold Oper.wp;rw[IE ho hf];simp only[Oper.upon];rw[QM]at k;refine Calls.mono k ?_;rintro e w' ⟨v,Fr,Ur,G,V,rfl,g⟩;obtain⟨v0,vs0,G1,G2,V1,V2,t,rfl,rfl,⟨b0,a1,T,F0,rfl,e1,e2,rfl,e3⟩,⟨rfl,rfl,rfl⟩⟩:=g.fin
 injection t with t _
 subst t;have y:=g.res;simp only[Xj,PD]at y;obtain⟨_,_,_,rfl,rfl⟩:=y;have z:=g.nodup;simp only[AA,A0]at z;have a2:∀b∈b0::F0,(b∈FS1 .hand\/w.heap.size<=b)/\b<w'.heap.size:=by
  intro b hb;have:=g.inF b (by simpa using hb);rw[k3];exact this
 have h0:∀b∈V1,(∃s,b∈US1 s)\/((b∈FS1 .hand\/w.heap.size<=b)/\b∉b0::F0/\b<w'.heap.size):=by
  intro b hb;obtain⟨h4,h5⟩:=g.inU b (by simpa using hb)
  have m:b∉b0::F0:=λe=>g.dis b (by simpa using e) (by simpa using hb)
  rcases h4 with h4|h4|h4
  ·rcases k6 b h4 with h6|h6|⟨h6,r,h7,h8⟩
   ·exact .inl ⟨.hand,by rw[k4];exact h6⟩
   ·exact .inl h6
   rcases h3 with h3|h3
   ·rw[h3]at h6;cases h6
   have:=KJ e2 h3;subst this;cases hb
  ·exact .inr ⟨.inl (by rw[k3];exact h4),m,h5⟩
  exact .inr ⟨.inr h4,m,h5⟩
 have j:∀b,b<w.heap.size->b∉FS1 .hand->w'.heap[b]?=w.heap[b]? :=λb hb u=>g.keep b hb (by rw[<-k3];exact u)
 let E2:St:={E1 with boxes:=Cr E1.boxes (.box d) (some i),ver:=Cr E1.ver (.box d) (E1.ver (.box d)+1),gen:=Cr E1.gen (.box d) (E1.gen (.box d)+1)}
 let blk1:=Cr blk (.box d) b0
 have a3:Root.box d≠Root.hand:=by simp
 have a4:∀s,C3 w w' a a E1 E2 blk blk1 s:=by
  intro s;by_cases hs:s= .box d
  ·subst hs;exact⟨.inl (by simp[E2,Cr]),.inl (by simp[E2,Cr])⟩
  have hv:E2.ver s=E1.ver s:=by simp[E2,Cr,hs]
  have hg:E2.gen s=E1.gen s:=by simp[E2,Cr,hs]
  by_cases hh:s= .hand
  ·subst hh;exact Gu hv hg (by simp[St.root,k2.nohand])
  refine En k2 hv hg ?_ (λ_ _=>rfl) (λ_=>by simp[blk1,Cr,hs]) (λb hb=>j b (k2.inF s b hb).2 (k2.dis s .hand hh b hb)) (λb hb=>j b (k2.inU s b hb).2 (λe=>k2.disU .hand s b e hb));cases s<;>simp_all [E2,St.root,Cr]
 have g1:=k2.two (w':=w') (a':=a) (E':=E2) (blk':=blk1) (r1:= .box d) (r2:= .hand) (L1:=b0::F0) (L2:=[]) (V1:=V1) (V2:=[]) a3
  (by simpa using z)
  (λb hb=>by
   have hb':b∈b0::F0:=by simpa using hb
   obtain⟨q1,q2⟩:=a2 b hb'
   exact⟨.inr q1,q2⟩)
  (λb hb=>by
   have hb':b∈V1:=by simpa using hb
   rcases h0 b hb' with q|⟨q1,q2,q3⟩
   ·exact .inl q
   exact .inr ⟨.inr q1,by simpa using q2,q3⟩)
  g.size g.os g.tape g.output (λb hb _ u=>j b hb u) a4
  (λn _ _=>⟨rfl,rfl⟩)
  (λs _ hs _=>⟨by simp[E2,Cr,hs],by simp[blk1,Cr,hs]⟩)
  (.inr ⟨i,a1,T,F0,by simp[E2,Cr],by simp[blk1,Cr,e1],e2,by simp[blk1,Cr]⟩)
  trivial (by simp[E2,Cr,k2.nohand]) k2.len k2.nodef (hfz:=λn hn=>k2.frz n hn)
 have a5:EJ w' a E2 blk1 (.one (.ptr (.box d) (E2.gen (.box d)) [] 0)) (.pointer (some ⟨b0,0,none⟩)) [] []:=by
  have h9:E2.stamp (.box d) []=E2.gen (.box d):=rfl;rw[<-h9];refine UQ ?_ ?_
  ·cases hc:i with
   |nil=>exact absurd hc e3
   |cons x xs=>simp[St.place,St.root,E2,Cr,Ca,hc]
  simp[pa,blk1,Cr,Addr.add]
 have g2:=g1.put (d:=d) hN a5 ZZ.none;have:=hK w' _ blk1 _ _ g2 (by rw[B3 (by simp),BY]) (by rw[B3 (by simp),BY]);rw[hd];exact this
end
theorem ADz {l:List AV} {x:Option α} (h:x.bind kk=some r) {f:α->List TV} (g:∀v,x=some v->jG P (P2 (oA ops i)) l (f v)) (hk:∀v,x=some v->kk v=some r->RW P N ops (i+1) ((clE P E (oA ops i) 0).newBox ((oA ops i).dst.getD 0) (f v)) Q) (b:aI P E (oA ops i) 0=some l:=by kernel_rfl) (hc:shB P E (oA ops i) 0=true:=by kernel_rfl) (ho:(Rb P ops E i&&SQ P N (oA ops i)&&GM N (oA ops i))=true:=by kernel_rfl):RW P N ops i E Q:=by
 obtain⟨v,hv,h⟩:=Av.1 h;simp only[An]at ho;obtain⟨h1,h2⟩:=Ij ho.1.1;obtain⟨args,tys,h3,h4,h5,h6⟩:=OC ho.1.2;obtain⟨d,h7,_,h8⟩:=Fs ho.2;have e:=hk v hv h;rw[h7]at e;simp only[Bk]at e;unfold RW;rw[GR h1];intro w0 FA UA w a blk FS US hr hF hU;simp only[wpList,Cv hr h2,BR];unfold aI shB shA at*;unfold clE at e
 cases hm:mvA P E (oA ops i) 0 with
 |none=>rw[hm]at b;cases b
 |some z=>
  obtain⟨ss,E1⟩:=z;rw[hm]at b hc e;simp only at b hc e
  cases hs:J9 P E1 (bits 0 (GH (oA ops i))) ss with
  |none=>rw[hs]at b;cases b
  |some y=>
   obtain⟨as',c⟩:=y;rw[hs]at b hc;simp only[B9]at b hc
   injection b with b
   subst b;refine .inl (zP hr hF hU h3 h4 h7 h8 (l:=bits 0 (GH (oA ops i))) (by rw[P4,h6]) (g v hv) hm hs (.inl hc) λw' v' blk' FS' US' k1 k2 k3=>e _ _ _ _ _ _ _ _ k1 k2 k3)
theorem rsp {rs:List ResultVar} {a:List TV} (t:Nat) (h1:rs=[.tmp t]) (h:(match E.ptr? (.tmp t)with
  |some (r,[],0)=>bif r.mem then E.boxes r else none
  |_=>none)=some a):∃t r,rs=[.tmp t]/\E.ptr? (.tmp t)=some (r,[],0)/\r.mem=true/\E.boxes r=some a:=by
 split at h
 ·rename_i r hr
  cases hm:r.mem with
  |false=>rw[hm]at h;cases h
  |true=>rw[hm]at h;exact⟨t,r,h1,hr,hm,h⟩
 cases h
def xtE (N:Nat) (E:St) (o:Oper):Option St:=match o.op,o.dst with
 | .extract t ix,some d=>bif Nat.blt d N then NT E d t ix else none
 |_,_=>none
theorem AB4 {w0:Base} {a:Act} (h:Db w0 FA UA N w a E blk FS US) (hF:FS .hand=[]) (hU:US .hand=[]) {o:Oper} (he:xtE N E o=some E'):
  ∃v blk' FS' US',(∀w2,(execOp a.eval o).run P w2= .ok (.value v) w2)/\Db w0 FA UA N w (a.put o.dst v) E' blk' FS' US'/\FS' .hand=[]/\US' .hand=[]:=by
 unfold xtE at he;split at he
 ·rename_i t ix d ho hd
  cases hN:Nat.blt d N with
  |false=>rw[hN]at he;cases he
  |true=>
   rw[hN]at he;simp only[Ae]at he;have hN':d<N:=by simpa[Bt]using hN
   obtain⟨nx,w',v,blk',FS',US',k1,k2,k3,k4,k5,_⟩:=EW.extract (P:=P) h hF hU ho hd hN' he;have b:∃x,∀w2,(execOp a.eval o).run P w2= .ok (.value x) w2:=by
    unfold NT at he;split at he
    ·rename_i n;split at he
     ·rename_i ss c;split at he
      ·rename_i s e;have hs:=h.slot n;rw[c]at hs;simp only[EJ]at hs;obtain⟨vs,f,hx⟩:=hs;obtain⟨v,A,B,C,D,F1,U1,h1,h2,h3,h4,h5⟩:=Yf ix hx e;exact⟨v,λw2=>by simp[execOp,ho,Instr.extract,f,h1]⟩
      cases he
     cases he
    cases he
   obtain⟨x,hx⟩:=b;rw[hx w]at k1
   injection k1 with q1 q2
   subst q1 q2
   rcases k2 with k2|⟨k2,_⟩
   ·injection k2 with k2
    subst k2;exact⟨_,blk',FS',US',hx,k3,k4,k5⟩
   cases k2
 cases he
theorem Iy {ts:List Nat} (i:Nat) (h:KW P N ops ts (i::dn) ((xtE N E (oA ops i)).getD E) Q) (hs:(xtE N E (oA ops i)).isSome=true:=by kernel_rfl) (hk:(Rb P ops E i&&nR ops ts dn i)=true:=by kernel_rfl):KW P N ops ts dn E Q:=by
 have hs':=getD_some (a:=E) hs;generalize hE:(xtE N E (oA ops i)).getD E=E' at h hs';simp only[An,nR]at hk;obtain⟨h1,h3,h4⟩:=hk;obtain⟨h5,h6⟩:=Ij h1;unfold KW at h⊢;rw[Vb (i:=i) h3];intro hQ hc w0 FA UA w a blk FS US k1 k2 k3;obtain⟨e1,e2,e3,e4,e5⟩:=Vl h4;obtain⟨v,blk',FS',US',g1,g2,g3,g4⟩:=AB4 (P:=P) k1 k2 k3 hs';refine ML (v:=v) (n:=ops.size) (Jl h5) (Region.noSelect_spec e1) (λc a w hx=>?_) e4 e5 _ _ a w hc (Region.free_spec (Jl h5) e2) e3 (.inl ⟨Cv k1 h6,λw2 _=>g1 w2⟩) ?_
 ·obtain⟨E',blk',FS',US',m1,_⟩:=hx;exact(hQ c E' m1).elim
 exact h hQ (LL hc e3) _ _ _ _ _ _ _ _ g2 g3 g4
def ZU (P:Program) (E:St) (o:Oper) (s:SV):Prop:=∀(N:Nat) (w0:Base) (FA UA:List Nat) (w:World) (a:Act) (blk:Root->Nat) (FS US:Root->List Nat),Db w0 FA UA N w a E blk FS US->F5 P w a E blk FS US o s
theorem AEg (hp:ZU P E (oA ops i) s) (h:RW P N ops (i+1) (E.put (oA ops i).dst s) Q) (hk:(Rb P ops E i&&GM N (oA ops i))=true:=by kernel_rfl):RW P N ops i E Q:=by
 rw[An]at hk;obtain⟨h1,h2⟩:=Ij hk.1;obtain⟨d,h3,_,h4⟩:=Fs hk.2;rw[h3]at h;unfold RW;rw[GR h1];intro w0 FA UA w a blk FS US hr hF hU;simp only[wpList,Cv hr h2,BR];exact .inl ((LP hr hF hU (hp _ _ _ _ _ _ _ _ _ hr) h3 h4).wp λw' v blk' FS' US' k1 k2 k3 _=>h _ _ _ _ _ _ _ _ k1 k2 k3)
theorem ADv (hp:ZU P E (oA ops i) s) (h:SW P N ops m (i+1) (E.put (oA ops i).dst s) K) (hk:(Rb P ops E i&&GM N (oA ops i)&&Nat.blt i m)=true:=by kernel_rfl):SW P N ops m i E K:=by
 simp only[An]at hk;obtain⟨h1,h2⟩:=Ij hk.1.1;obtain⟨d,h3,_,h4⟩:=Fs hk.1.2;rw[h3]at h;unfold SW;rw[QA h1 hk.2];intro w0 FA UA w a blk FS US k1 k2 k3;obtain⟨v,U,g1,g2,g3⟩:=hp _ _ _ _ _ _ _ _ _ k1;have hr:=g1 w (λr _=>⟨λ_ _=>rfl,λ_ _=>rfl⟩);simp only[wpStill,Cv k1 h2,BR,Oper.still,hr,Oper.stillUpon_value];rw[h3];refine h _ _ _ _ _ _ _ _ (k1.put h4 g2 (Px k1 g3 _)) ?_ ?_
 ·rw[B3 (by simp),k2]
 rw[B3 (by simp),k3]
theorem AEQ {ts:List Nat} (i:Nat) (hp:ZU P E (oA ops i) s) (h:KW P N ops ts (i::dn) (E.put (oA ops i).dst s) Q) (hk:(Rb P ops E i&&GM N (oA ops i)&&nR ops ts dn i)=true:=by kernel_rfl):KW P N ops ts dn E Q:=by
 simp only[An,nR]at hk;obtain⟨⟨h1,h2⟩,h3,h4⟩:=hk;obtain⟨h5,h6⟩:=Ij h1;obtain⟨d,h7,_,h8⟩:=Fs h2;unfold KW at h⊢;rw[Vb (i:=i) h3];rw[h7]at h;intro hQ hc w0 FA UA w a blk FS US k1 k2 k3;obtain⟨e1,e2,e3,e4,e5⟩:=Vl h4;obtain⟨v,U,g1,g2,g3⟩:=hp _ _ _ _ _ _ _ _ _ k1;refine ML (v:=v) (n:=ops.size) (Jl h5) (Region.noSelect_spec e1) (λc a w hx=>?_) e4 e5 _ _ a w hc (Region.free_spec (Jl h5) e2) e3 (.inl ⟨Cv k1 h6,λw2 e=>?_⟩) ?_
 ·obtain⟨E',blk',FS',US',m1,_⟩:=hx;exact(hQ c E' m1).elim
 ·exact g1 w2 (λr hr=>⟨λb hb=>e.2 b (k1.inF r b hb).2,λb hb=>e.2 b (k1.inU r b hb).2⟩)
 rw[h7];refine h hQ (LL hc e3) _ _ _ _ _ _ _ _ (k1.put h8 g2 (Px k1 g3 _)) ?_ ?_
 ·rw[B3 (by simp),k2]
 rw[B3 (by simp),k3]
def ADg (o:Oper):Bool:=match o.op with
 | .assign (.const _)| .move (.const _)=>true
 |_=>false
theorem pjk {o:Oper} (h:ADg o=true:=by kernel_rfl):ZU P E o (.one .junk):=by
 intro N w0 FA UA w a blk FS US hr;unfold ADg at h;split at h
 ·rename_i v ho;exact⟨v,[],λw2 _=>by simp[execOp,ho,Act.eval],by simp[EJ,CX,TV.isJunk],by simp⟩
 ·rename_i v ho;exact⟨v,[],λw2 _=>by simp[execOp,ho,Act.eval],by simp[EJ,CX,TV.isJunk],by simp⟩
 cases h
def zG (P : Program) (f : Field) (j : Nat) (x y : TV) : Option Bool := bif (f.name != "_") && Nat.beq f.offset j then (match P.underlying f.type, x, y with
 |some (.int _),.int k a,.int k' b=>bif decide (k=k')then some (a==b)else none
 |some .bool,.bool a,.bool b=>some (a==b)
 |some .string,.str a,.str b=>some (a.toList==b.toList)
 |_,_,_=>none)else none
def YC (P:Program):List Field->Nat->List TV->List TV->Option Bool
 |[],_,[],[]=>some true
 |f::fs,j,x::xs,y::ys=>match zG P f j x y,YC P fs (j+1) xs ys with
  |some b,some c=>some (b&&c)
  |_,_=>none
 |_,_,_,_=>none
def O9 (o:Oper):Bool×TypeId×Operand×Operand:=match o.op with
 | .binOp .eql t x y _=>(false,t,x,y)
 | .binOp .neq t x y _=>(true,t,x,y)
 |_=>(false,0,.tmp 0,.tmp 0)
def yT (o:Oper):Bool:=match o.op with
 | .binOp .eql .. | .binOp .neq .. =>true
 |_=>false
def vY (P:Program) (t:TypeId):Bool:=(match P.underlying t with
 |some (.struct _)=>true
 |_=>false)&&!P.stoodInHeld t&&!P.eqGuardType P.depth t
def ABU (P:Program) (E:St) (o:Oper):Option Bool:=bif yT o&&vY P (O9 o).2.1 then(match E.val P (O9 o).2.1 (O9 o).2.2.1,E.val P (O9 o).2.1 (O9 o).2.2.2 with
 |some (.agg xs),some (.agg ys)=>YC P (P.fieldsOf (O9 o).2.1).toList 0 xs ys
 |_,_=>none)else none
theorem ABi {f:Field} {r:Bool} {vx vy:Value} {F U F' U':List Nat} {a:Act} {blk:Root->Nat} {X Y:Array Value} (d:Nat) {x y:TV} (h:zG P f j x y=some r) (hx:CX w a E blk x vx F U) (hy:CX w a E blk y vy F' U') (kx:X[j]?=some vx) (ky:Y[j]?=some vy):
  f.name ≠ "_" ∧ ∃ a b, (∀ w2 : World, (part f.type X f.offset).run P w2 = .ok a w2) ∧ (∀ w2 : World, (part f.type Y f.offset).run P w2 = .ok b w2) ∧ ∀ w2 : World, (Op.equalIn (d + 1) f.type a b).run P w2 = .ok r w2 := by
 unfold zG at h
 cases hb : (f.name != "_" && Nat.beq f.offset j) with
 |false=>rw[hb]at h;cases h
 |true=>
  rw[hb]at h;simp only[Ae]at h;rw[An]at hb;have hj:=B5 hb.2;subst hj;refine⟨by simpa using hb.1,?_⟩;split at h
  ·rename_i k k1 n1 k2 n2 hu
   cases hk:decide (k1=k2)with
   |false=>rw[hk]at h;cases h
   |true=>
   rw[hk]at h;have c:=Ik hk;subst c;simp only[Ae]at h
   injection h with h
   subst h;obtain⟨rfl,_,_⟩:=hx;obtain⟨rfl,_,_⟩:=hy;exact⟨_,_,λw2=>run_part_plain w2 (e:=f.type) (by simp[Program.plainKey,hu]) kx,λw2=>run_part_plain w2 (e:=f.type) (by simp[Program.plainKey,hu]) ky,λw2=>run_equalIn_int w2 d f.type k1 k n1 n2 hu⟩
  ·rename_i b1 b2 hu
   injection h with h
   subst h;obtain⟨rfl,_,_⟩:=hx;obtain⟨rfl,_,_⟩:=hy;exact⟨_,_,λw2=>run_part_plain w2 (e:=f.type) (by simp[Program.plainKey,hu]) kx,λw2=>run_part_plain w2 (e:=f.type) (by simp[Program.plainKey,hu]) ky,λw2=>run_equalIn_bool' w2 d f.type b1 b2 hu⟩
  ·rename_i s1 s2 hu
   injection h with h
   subst h;obtain⟨rfl,_,_⟩:=hx;obtain⟨rfl,_,_⟩:=hy;exact⟨_,_,λw2=>run_part_plain w2 (e:=f.type) (by simp[Program.plainKey,hu]) kx,λw2=>run_part_plain w2 (e:=f.type) (by simp[Program.plainKey,hu]) ky,λw2=>run_equalIn_string w2 d f.type s1 s2 hu⟩
  cases h
theorem dH {a:Act} {blk:Root->Nat} {X Y:Array Value} (d:Nat):∀{fs:List Field} {j:Nat} {xs ys:List TV} {vx vy:List Value} {F U F' U':List Nat} {r:Bool},YC P fs j xs ys=some r->Da w a E blk xs vx F U->Da w a E blk ys vy F' U'->
  (∀i v,vx[i]?=some v->X[j+i]?=some v)->(∀i v,vy[i]?=some v->Y[j+i]?=some v)->∀w2:World,(Op.eqFields (d+1) X Y fs).run P w2= .ok r w2
 |[],j,xs,ys,vx,vy,F,U,F',U',r,h,hx,hy,kx,ky,w2=>by
  cases xs<;>cases ys<;>simp only[YC,reduceCtorEq,Ao]at h;subst h;rfl
 |f::fs,j,xs,ys,vx,vy,F,U,F',U',r,h,hx,hy,kx,ky,w2=>by
  cases xs with
  |nil=>simp[YC]at h
  |cons x xs=>
   cases ys with
   |nil=>simp[YC]at h
   |cons y ys=>
    simp only[YC]at h;split at h
    ·rename_i b c h1 h2
     injection h with h
     subst h;obtain⟨v,vs,F1,F2,U1,U2,rfl,_,_,e1,e2⟩:=hx;obtain⟨v',e,F1',F2',U1',U2',rfl,_,_,e1',e2'⟩:=hy;obtain⟨g1,A,B,g2,g3,g4⟩:=ABi (X:=X) (Y:=Y) d h1 e1 e1' (kx 0 v rfl) (ky 0 v' rfl);have ih:=dH d h2 e2 e2' (λi u hu=>by rw[FR,Ob 1 i];exact kx (i+1) u (by simpa using hu)) (λi u hu=>by rw[FR,Ob 1 i];exact ky (i+1) u (by simpa using hu)) w2;simp only[Op.eqFields,Ax g1,Sem.run_bind,g2,g3,g4,Result.andThen_ok];cases b
     ·simp
     simpa using ih
    cases h
theorem peq {o:Oper} (h:ABU P E o=some b):ZU P E o (.one (.bool (bif(O9 o).1 then !b else b))):=by
 intro N w0 FA UA w a blk FS US hr;unfold ABU at h
 cases hb:(yT o&&vY P (O9 o).2.1)with
 |false=>rw[hb]at h;cases h
 |true=>
  rw[hb]at h;simp only[Ae]at h;rw[An]at hb;split at h
  ·rename_i xs ys hx hy;obtain⟨U1,k1,_⟩:=K5 hr hx;obtain⟨U2,k2,_⟩:=K5 hr hy;simp only[EJ]at k1 k2;obtain⟨vx,e1,c1⟩:=k1;obtain⟨vy,e2,c2⟩:=k2;have hT:=hb.2;simp only[vY,An,CP]at hT;have e:P.underlying (O9 o).2.1=some (.struct (P.fieldsOf (O9 o).2.1)):=by
    have:=hT.1.1;split at this
    ·rename_i fs f;simp only[Program.fieldsOf,f]
    cases this
   have c:∀w2:World,(Op.equalIn 10000 (O9 o).2.1 (.agg vx.toArray) (.agg vy.toArray)).run P w2= .ok b w2:=λw2=>by
    rw[run_equalIn_struct w2 9999 _ _ _ e hT.1.2];exact dH (X:=vx.toArray) (Y:=vy.toArray) 9998 h c1 c2 (λi v hv=>by simpa using hv) (λi v hv=>by simpa using hv) w2
   refine⟨.bool (bif(O9 o).1 then !b else b),[],λw2 _=>?_,by simp[EJ,CX,CA,Value.cells],by simp⟩;have d:=hb.1;unfold yT at d;split at d
   ·rename_i t x y t' ho;simp only[O9,ho]at e1 e2 c hT⊢;simp[execOp,ho,e1,e2,run_eqGuard_agg w2 _ _ _ _ _ _ hT.2,run_eql_struct,c w2]
   ·rename_i t x y t' ho;simp only[O9,ho]at e1 e2 c hT⊢;simp[execOp,ho,e1,e2,run_eqGuard_agg w2 _ _ _ _ _ _ hT.2,run_neq_struct,c w2]
   cases d
  cases h
abbrev pb (n:Nat):SV:= .one (.ptr (.box n) 0 [] 0)
abbrev px (n:Nat):SV:= .one (.ptr (.ext n) 0 [] 0)
abbrev i6 (n:Int):TV:= .int .i64 n
abbrev tb (b:Bool):TV:= .bool b
abbrev ts (s:ByteArray):TV:= .str s
abbrev rg (n:Nat):List AV:=List.replicate n .gone
theorem jr {w:β} {f:V->Option β} {a:V⊕β} (h:some (.inr w)=some a) (hk:Sum.elim f some a=some r):some w=some r:=by
 injection h with h
 subst h;exact hk
theorem jo {S:Type} {w:β} {f:V->Option β} {o:S⊕(V⊕β)} (h:some (.inr (.inr w))=some o) (hk:∀w,o= .inr (.inr w)->Sum.elim f some (.inr w)=some r):some w=some r:=by
 injection h with h
 exact hk w h.symm
theorem rr {v r:β} (h:some v=some r):v=r:=Option.some.inj h
theorem rq {e:Exit} {rs:List ResultVar} {a:SV} (he:e= .normal\/e= .ret:=by first|exact .inr rfl|exact .inl rfl) (hk:(Ef P E rs).map (λz=>EU z.1)=some a:=by kernel_rfl):(e= .normal\/e= .ret)/\∃ss E',Ef P E rs=some (ss,E')/\EU ss=a:=⟨he,rsz hk⟩
theorem rx {e:Exit} {rs:List ResultVar} {b:SV} {a:List TV} (he:e= .normal\/e= .ret:=by first|exact .inr rfl|exact .inl rfl) (hk:(Ef P E rs).map (λz=>(EU z.1,z.2.boxes (.ext 0)))=some (b,some a):=by kernel_rfl):(e= .normal\/e= .ret)/\∃ss E',Ef P E rs=some (ss,E')/\EU ss=b/\E'.boxes (.ext 0)=some a:=⟨he,rsx hk⟩
section
variable {id:Nat}
theorem ws {y:Code} (h:RW P N ops 0 E (Kf (λE'=>Wp P N y E' Q) Q)):Wp P N (.seq (.region id ops false) y) E Q:=Wp.seq (AB1 h)
end
theorem Cq (hf:∀x,(f x).length=sz) (h:(gi l n).bind kk=some r) (hk:∀x,gi l n=some x->kk x=some r->RW P N ops (i+1) (E.put (oA ops i).dst (lM E (oA ops i) (n.toNat*sz+0))) Q) (hc:yS P E (oA ops i) sz=some (AU f l,n):=by kernel_rfl) (hq:wT P N ops i E=true:=by kernel_rfl):RW P N ops i E Q:=
 bd h λx gx h=>RW.q (Ja hf gx hc) (hk x gx h) hq
def qX (P:Program) (N:Nat) (ops:Array Oper) (ts dn:List Nat) (E:St) (i:Nat):Option St:=bif Nat.blt i ops.size&&GM N (oA ops i)&&nR ops ts dn i then
 (match BK P ops E (oA ops i)with
 |some false=>some (E.put (oA ops i).dst (.tup []))
 |some true=>match JT P E (oA ops i)with
  |some s=>some (E.put (oA ops i).dst s)
  |none=>xtE N E (oA ops i)
 |none=>none)else none
theorem tst {ts:List Nat} (hs:qX P N ops ts dn E i=some E') (h:KW P N ops ts (i::dn) E' Q):KW P N ops ts dn E Q:=by
 unfold qX at hs
 cases hb:(Nat.blt i ops.size&&GM N (oA ops i)&&nR ops ts dn i)with
 |false=>rw[hb]at hs;cases hs
 |true=>
  rw[hb]at hs;simp only[Ae]at hs;split at hs
  ·rename_i hg
   injection hs with hs
   subst hs;exact ADB i h hg hb
  ·rename_i hg;simp only[An]at hb;have ho:Rb P ops E i=true:=by simp only[Rb,hb.1.1,hg,GS]
   split at hs
   ·rename_i s a
    injection hs with hs
    subst hs;exact ACQ i a h (by rw[ho,hb.1.2,hb.2];rfl)
   exact Iy i (by rw[hs];exact h) (by rw[hs];rfl) (by rw[ho,hb.2];rfl)
  cases hs
def sP (P:Program) (N:Nat) (ops:Array Oper) (ts dn:List Nat) (E:St):List Nat->Option (Nat×St)
 |[]=>none
 |i::l=>match qX P N ops ts dn E i with
  |some E'=>some (i,E')
  |none=>sP P N ops ts dn E l
theorem mH {ts:List Nat}:∀{l:List Nat} {E':St},sP P N ops ts dn E l=some (i,E')->qX P N ops ts dn E i=some E'
 |[],_,h=>by cases h
 |j::l,E',h=>by
  simp only[sP]at h;split at h
  ·rename_i E1 h1
   injection h with h
   injection h with h2 h3
   subst h2 h3;exact h1
  exact mH h
def AB0 (P:Program) (N:Nat) (ops:Array Oper) (ts:List Nat) (mv:List Nat) (E:St) (i:Nat):Option St:=bif Rb P ops E i&&(kp (oA ops i)||ts.contains i)then CQ P N (mv.contains i) E (oA ops i)else none
def ABt (f:A->Option (List St)):List A->Option (List St)
 |[]=>some []
 |x::l=>match f x,ABt f l with
  |some a,some b=>some (a++b)
  |_,_=>none
theorem m6 {f:A->Option (List St)}:∀{l:List A} {L:List St},ABt f l=some L->∀x∈l,∃a,f x=some a/\∀E∈a,E∈L
 |[],_,_,x,hx=>by cases hx
 |y::l,L,h,x,hx=>by
  simp only[ABt]at h;split at h
  ·rename_i a b h1 h2
   injection h with h
   subst h
   rcases B7.1 hx with rfl|hx
   ·exact⟨a,h1,λE hE=>AE _ hE⟩
   obtain⟨a',h3,h4⟩:=m6 h2 x hx;exact⟨a',h3,λE hE=>AM _ (h4 E hE)⟩
  cases h
def tV (P:Program) (N:Nat) (ops:Array Oper) (ts mv:List Nat):Nat->List Nat->St->Option (List St)
 |0,_,_=>none
 |n+1,dn,E=>match Region.ready .any ops (lsd ops.size dn)with
  |[]=>some [E]
  |rs=>bif Nat.blt dn.length ops.size then(match sP P N ops ts dn E rs with
   |some (i,E')=>tV P N ops ts mv n (i::dn) E'
   |none=>ABt (λi=>match AB0 P N ops ts mv E i with
    |some E'=>tV P N ops ts mv n (i::dn) E'
    |none=>none) rs)else none
theorem qO {ts:List Nat} {mv:List Nat}:∀{n:Nat} {dn:List Nat} {E:St} {L:List St},tV P N ops ts mv n dn E=some L->(∀E'∈L,Q .normal E')->KW P N ops ts dn E Q
 |0,_,_,_,h,_=>by cases h
 |n+1,dn,E,L,h,hq=>by
  simp only[tV]at h;split at h
  ·rename_i hr
   injection h with h
   subst h;exact AP (hq E (by simp)) (by rw[hr];rfl)
  rename_i b
  cases hb:Nat.blt dn.length ops.size with
  |false=>rw[hb]at h;cases h
  |true=>
   rw[hb]at h;simp only[Ae]at h;split at h
   ·rename_i i E' hf;exact tst (mH hf) (qO h hq)
   refine KW.all _ (λi hi=>?_) b (by simp only[vF,hb,jJ,Wv]);obtain⟨a,h1,h2⟩:=m6 h i hi;split at h1
   ·rename_i E' hs;unfold AB0 at hs
    cases hc:(Rb P ops E i&&(kp (oA ops i)||ts.contains i))with
    |false=>rw[hc]at hs;cases hs
    |true=>
     rw[hc]at hs;exact IY hs (qO h1 λE'' hE=>hq E'' (h2 E'' hE)) hc
   cases h1
def xI (P:Program) (N:Nat) (ops:Array Oper) (ts mv dn:List Nat) (E:St):List St:=(tV P N ops ts mv (ops.size+1) dn E).getD []
theorem nP {X:Prop} {c:List PanicEntry} (h:(Exit.panic c= .normal\/Exit.panic c= .ret)/\X):False:=by rcases h with⟨h|h,_⟩<;>cases h
section
variable {w0:Base} {a:Act}
theorem Db.resay (h:Db w0 FA UA N w a E blk FS US) (hd:d<N) (hs:EJ w a E blk s (a.eval (.tmp d)) [] []):∃FS' US',Db w0 FA UA N w a (E.put (some d) s) blk FS' US'/\FS' .hand=FS .hand/\US' .hand=US .hand:=by
 have k:=h.put (F:=[]) (U:=[]) hd hs ZZ.none;have e:a.put (some d) (a.eval (.tmp d))=a:=by
  cases a with
  |mk tmps defers=>
   have hl:d<tmps.size:=Bg hd h.len;simp only[Act.put,Act.eval];congr 1;apply Array.ext (by simp);intro i h1 h2;rw[Array.getElem_setIfInBounds];split
   ·rename_i e;subst e;simp[hl]
   rfl
 rw[e]at k;exact⟨_,_,k,B3 (by simp),B3 (by simp)⟩
end
theorem Db.toAdr {w0:Base} {a:Act} {b:Nat} (h:Db w0 FA UA N w a E blk FS US) (hd:d<N) (hs:E.ptr? (.tmp d)=some (.ext 0,[],0)) (hp:E.amb.pin=some b):∃FS' US',Db w0 FA UA N w a (E.put (some d) (.one (.adr ⟨b,0,none⟩))) blk FS' US'/\FS' .hand=FS .hand/\US' .hand=US .hand:=by
 obtain⟨_,ad,h1,h2⟩:=KK h hs;refine h.resay hd ?_;rw[h2];have e:=h.xblk 0;rw[h.pin b hp]at e;simp only[pa,e,Addr.add]at h1
 injection h1 with h1
 subst h1;refine⟨?_,λ_=>rfl⟩;show CA w (.adr ⟨b,0,none⟩) _ [] [];simp[CA]
section
variable {w0:Base} {a:Act}
theorem Db.toPtr {b:Nat} (h:Db w0 FA UA N w a E blk FS US) (hd:d<N) (hs:E.slots d= .one (.adr ⟨b,0,none⟩)) (hp:E.amb.pin=some b) {f:List TV} (hb:E.boxes (.ext 0)=some f) (g:f.isEmpty=false):
  ∃FS' US',Db w0 FA UA N w a (E.put (some d) (.one (.ptr (.ext 0) (E.gen (.ext 0)) [] 0))) blk FS' US'/\FS' .hand=FS .hand/\US' .hand=US .hand:=by
 have hv:a.eval (.tmp d)= .pointer (some ⟨b,0,none⟩):=by
  have:=h.slot d;rw[hs]at this;simp only[EJ,CX,CA]at this;exact this.1.1
 refine h.resay hd ?_;have e:=h.xblk 0;rw[h.pin b hp]at e;refine⟨⟨rfl,rfl,A3 _,λ_=>⟨?_,⟨b,0,none⟩,?_,hv⟩⟩,λ_=>by rw[hv];rfl⟩
 ·cases f with
  |nil=>cases g
  |cons c cs=>simp[St.place,St.root,hb,Ca]
 simp[pa,e,Addr.add]
end
def pnE (E:St) (d b:Nat):St:=E.put (some d) (.one (.adr ⟨b,0,none⟩))
def ACh (N:Nat) (E:St) (d:Nat):Bool:=Nat.blt d N&&(match E.ptr? (.tmp d)with
 |some (.ext 0,[],0)=>true
 |_=>false)
theorem AAK (h:ACh N E d=true):d<N/\E.ptr? (.tmp d)=some (.ext 0,[],0):=by
 simp only[ACh,An]at h;refine⟨by simpa[Bt]using h.1,?_⟩;have h2:=h.2;split at h2
 ·assumption
 cases h2
theorem ADx {b:Nat} (d:Nat) (h:RW P N ops i (pnE E d b) Q) (hp:E.amb.pin=some b:=by kernel_rfl) (ho:ACh N E d=true:=by kernel_rfl):RW P N ops i E Q:=by
 intro w0 FA UA w a blk FS US hr hF hU;obtain⟨h1,h2⟩:=AAK ho;obtain⟨FS',US',k1,k2,k3⟩:=hr.toAdr h1 h2 hp;exact h _ _ _ _ _ _ _ _ k1 (by rw[k2,hF]) (by rw[k3,hU])
def npE (E:St) (d:Nat):St:=E.put (some d) (.one (.ptr (.ext 0) (E.gen (.ext 0)) [] 0))
def AAX (N:Nat) (E:St) (d:Nat):Bool:=Nat.blt d N&&(match E.boxes (.ext 0)with
 |some cells=>!cells.isEmpty
 |none=>false)
theorem r9 (h:AAX N E d=true):d<N/\∃a,E.boxes (.ext 0)=some a/\a.isEmpty=false:=by
 simp only[AAX,An]at h;refine⟨by simpa[Bt]using h.1,?_⟩;have h2:=h.2;split at h2
 ·rename_i a hc;exact⟨a,hc,by simpa using h2⟩
 cases h2
theorem nC {b:Nat} (d:Nat) (h:RW P N ops i (npE E d) Q) (hp:E.amb.pin=some b:=by kernel_rfl) (hs:E.slots d= .one (.adr ⟨b,0,none⟩):=by kernel_rfl) (ho:AAX N E d=true:=by kernel_rfl):RW P N ops i E Q:=by
 intro w0 FA UA w a blk FS US hr hF hU;obtain⟨h1,c,h2,h3⟩:=r9 ho;obtain⟨FS',US',k1,k2,k3⟩:=hr.toPtr h1 hs hp h2 h3;exact h _ _ _ _ _ _ _ _ k1 (by rw[k2,hF]) (by rw[k3,hU])
theorem tA {ts:List Nat} {b:Nat} (d:Nat) (h:KW P N ops ts dn (npE E d) Q) (hp:E.amb.pin=some b:=by kernel_rfl) (hs:E.slots d= .one (.adr ⟨b,0,none⟩):=by kernel_rfl) (ho:AAX N E d=true:=by kernel_rfl):KW P N ops ts dn E Q:=by
 intro hq hc w0 FA UA w a blk FS US hr hF hU;obtain⟨h1,c,h2,h3⟩:=r9 ho;obtain⟨FS',US',k1,k2,k3⟩:=hr.toPtr h1 hs hp h2 h3;exact h hq hc _ _ _ _ _ _ _ _ k1 (by rw[k2,hF]) (by rw[k3,hU])
structure Wx (n c b g cap:Nat) (e T T':TypeId) (sz:Nat) (rest:List Value) (enc:γ->List TV) (w:World) (l:List γ):Prop where
 ne:b≠g/\c≠g/\c≠b
 len:l.length=n
 ptr:w.heap[c]?=some (.cells #[.pointer (some ⟨b,0,none⟩)] T' (0,0))
 box:w.heap[b]?=some (.cells (.slice (some ⟨g,0,none⟩) n cap::rest).toArray T (0,0))
 row:∃cur,w.heap[g]?=some (.cells cur e (0,0))/\cur.size=cap*sz/\cur.toList.take (l.length*sz)=(AU enc l).map TV.val
 le:l.length<=cap/\cap<=maxLen
theorem rI {l:List γ} {k:Nat} {n c b g cap:Nat} {e T T':TypeId} {rest:List Value} {enc:γ->List TV} (h:Wx n c b g cap e T T' sz rest enc w l) (hk:k<l.length*sz):w.cell? ⟨g,k,none⟩=((AU enc l).map TV.val)[k]? :=by
 obtain⟨a,h1,h2,h3⟩:=h.row;rw[<-h3,Cd,Ax hk];simp[World.cell?,h1]
def Iv (n c b g cap:Nat) (e T T':TypeId) (sz:Nat) (rest:List Value) (enc:γ->List TV) (l:List γ):QZ where
 B:=[c,b,g]
 I:=λw=>Wx n c b g cap e T T' sz rest enc w l
 st:=λw w' h hk=>⟨h.ne,h.len,by rw[hk c (by simp)];exact h.ptr,by rw[hk b (by simp)];exact h.box,by rw[hk g (by simp)];exact h.row,h.le⟩
 rd:=λad=>if ad.spot.isSome=true then none else if ad.block=c then(if ad.off=0 then some (.pointer (some ⟨b,0,none⟩))else none)else if ad.block=b then(if ad.off=0 then some (.slice (some ⟨g,0,none⟩) n cap)else none)else if ad.block=g then(if ad.off<l.length*sz then((AU enc l).map TV.val)[ad.off]? else none)else none
 rdI:=λw ad v h hr=>by
  obtain⟨bl,off,spot⟩:=ad
  cases spot with
  |some s=>simp at hr
  |none=>
   simp only[EH,BB,EM]at hr;split at hr
   ·rename_i hb;subst hb;split at hr
    ·rename_i ho;subst ho
     injection hr with hr
     subst hr;simp[World.cell?,h.ptr]
    cases hr
   split at hr
   ·rename_i hb;subst hb;split at hr
    ·rename_i ho;subst ho
     injection hr with hr
     subst hr;simp[World.cell?,h.box]
    cases hr
   split at hr
   ·rename_i hg;subst hg;split at hr
    ·rename_i ho;rw[rI h ho];exact hr
    cases hr
   cases hr
theorem jQ {sf:FuncId} {ie:TypeInfo} {c b g cap:Nat} {e T T':TypeId} {rest:List Value} {enc:γ->List TV} (h:∀x,(enc x).length=sz) (n:Nat) (gS:Bool) (hx:∀args W,(callFunc sf args).run P W=((Extern.ReflectliteSwapper.swap gS args).run P W).andThen λv w'=> .ok (.value v) w') (a3:P.info? e=some ie) (o:ie.size=sz) (h7:∀w,(isAgg e).run P w= .ok true w):
  MH P (Iv n c b g cap e T T' sz rest enc) sf #[.slice (some ⟨g,0,none⟩) n cap,typeHandle P e]:=by
 intro l i j x y hi hj w hI hB;obtain⟨⟨u,h0,h8⟩,hn,p,q,h9,h3⟩:=hI;have a4:b<w.heap.size:=hB b (by simp[Iv]);have a5:c<w.heap.size:=hB c (by simp[Iv]);have b3:g<w.heap.size:=hB g (by simp[Iv]);obtain⟨f,hg,h4,a0⟩:=h9;obtain⟨i0,i1⟩:=IR hi;obtain⟨j0,j1⟩:=IR hj;obtain⟨a,rfl⟩:=C9 i0;obtain⟨d,rfl⟩:=C9 j0;simp only[Bh]at i1 j1;have la:=(Ah.1 i1).1;have lc:=(Ah.1 j1).1;have hX:((enc x).map TV.val).length=sz:=by rw[AZ];exact h x
 have hY:((enc y).map TV.val).length=sz:=by rw[AZ];exact h y
 have r:l.length*sz<=f.size:=by rw[h4];exact BH _ h3.1
 have a6:(a+1)*sz<=l.length*sz:=BH _ la;have a7:(d+1)*sz<=l.length*sz:=BH _ lc;rw[DJ]at a6 a7;have hI:Wx n c b g cap e T T' sz rest enc w l:=⟨⟨u,h0,h8⟩,hn,p,q,⟨f,hg,h4,a0⟩,h3⟩;have cell:∀(m:Nat) (z:γ),l[m]?=some z->∀k v,((enc z).map TV.val)[k]?=some v->w.cell? ⟨g,0+m*ie.size+k,none⟩=some v:=by
  intro m z hm k v hk;have a1:=(Ah.1 hk).1;rw[AZ,h]at a1;have lm:=(Ah.1 hm).1;have a8:(m+1)*sz<=l.length*sz:=BH _ lm;rw[DJ]at a8;rw[o,Io,rI hI (by omega)];have e1:(AU enc l)[m*sz+k]?=(enc z)[k]? :=by
   have h2:(AU enc l)[m*sz+k]?=((AU enc l).drop (m*sz))[k]? :=by rw[BS]
   rw[h2,K2 h l m,Bf lm,Q8];have e4:l[m]=z:=by rw[Ab lm]at hm;injection hm
   rw[e4,AR (by rw[h];exact a1)]
  rw[AT,e1,<-AT,hk]
 have frz:∀(m k:Nat),w.frozen? ⟨g,0+m*ie.size+k,none⟩=false:=by
  intro m k;simp[World.frozen?,hg]
 have s:=Go.Lib.run_swap_cells (P:=P) gS e ie a3 h7 g 0 n cap a d (by omega) (by omega) ((enc x).map TV.val) ((enc y).map TV.val) (by rw[hX,o]) (by rw[hY,o]) (λv hv=>by obtain⟨t,_,rfl⟩:=AL.1 hv;exact X4) (λv hv=>by obtain⟨t,_,rfl⟩:=AL.1 hv;exact X4) w (cell a x i1) (cell d y j1) (λk _=>frz a k) (λk _=>frz d k);simp only[Io,o]at s;have h1:=JP e (0,0) g ((enc y).map TV.val) (a*sz) f w hg (by rw[hY];omega);have a9:(setRow f.toList (a*sz) ((enc y).map TV.val)).toArray.size=f.size:=by
  rw[Oc,Ek (by rw[hY];simp;omega)];simp
 have h2:=JP e (0,0) g ((enc x).map TV.val) (d*sz) _ _ h1 (by rw[a9,hX];omega);have kB:∀k,k<w.heap.size->k≠g->((w.setCells g (a*sz) ((enc y).map TV.val)).setCells g (d*sz) ((enc x).map TV.val)).heap[k]?=w.heap[k]? :=by
  intro k hk a2;have s1:(w.setCells g (a*sz) ((enc y).map TV.val)).heap.size=w.heap.size:=G9 g _ _ _;rw[World.heap_setCells_other _ g _ _ (by rw[s1];exact hk) a2,World.heap_setCells_other _ g _ _ hk a2]
 refine⟨(w.setCells g (a*sz) ((enc y).map TV.val)).setCells g (d*sz) ((enc x).map TV.val),?_,⟨?_,?_,?_,?_,?_⟩,?_⟩
 ·rw[hx];have ea:(#[Value.int .i64 (a:Int),Value.int .i64 (d:Int)]++ #[Value.slice (some ⟨g,0,none⟩) n cap,typeHandle P e])= #[.int .i64 (a:Int),.int .i64 (d:Int),.slice (some ⟨g,0,none⟩) n cap,typeHandle P e]:=rfl;rw[ea,s];rfl
 ·rw[World.os_setCells,World.os_setCells]
 ·rw[JB,JB]
 ·rw[World.output_setCells,World.output_setCells]
 ·rw[G9,G9];exact A3 _
 ·intro k hk b0;exact kB k hk (λe=>b0 (by rw[e];simp[Iv]))
 have h5:(si (si l (a:Int) y) (d:Int) x).length=l.length:=by simp[si]
 have lcur:f.toList.length=f.size:=by simp
 have h6:(setRow f.toList (a*sz) ((enc y).map TV.val)).length=f.size:=by rw[Ek (by rw[hY,lcur];omega),lcur]
 have b1:(setRow (setRow f.toList (a*sz) ((enc y).map TV.val)) (d*sz) ((enc x).map TV.val)).length=f.size:=by rw[Ek (by rw[hX,h6];omega),h6]
 show Wx n c b g cap e T T' sz rest enc _ (si (si l (a:Int) y) (d:Int) x);refine⟨⟨u,h0,h8⟩,h5.trans hn,by rw[kB c a5 h0];exact p,by rw[kB b a4 u];exact q,⟨_,h2,?_,?_⟩,by rw[h5];exact h3⟩
 ·rw[Oc];exact b1.trans h4
 rw[h5];show(setRow (setRow f.toList (a*sz) ((enc y).map TV.val)) (d*sz) ((enc x).map TV.val)).take (l.length*sz)=_;rw[Mf (by rw[hX];omega) (by rw[h6];exact r),Mf (by rw[hY];omega) (by rw[lcur];exact r),a0,<-Qb,<-Qb];have e1:setRow (AU enc l) (a*sz) (enc y)=AU enc (si l (a:Int) y):=by
  have:=Si h (z:=y) hi
  rwa [Bh]at this
 obtain⟨z0,b2⟩:∃z0,gi (si l (a:Int) y) (d:Int)=some z0:=by
  have lc2:d<(si l (a:Int) y).length:=by simp only[si,Fl];exact lc
  refine⟨(si l (a:Int) y)[d],?_⟩;unfold gi;rw[Ax (by omega),Bh];exact Ab lc2
 have e2:=Si h (z:=x) b2;rw[Bh]at e2;rw[e1,e2]
theorem rU {l:List γ} {n c b g cap:Nat} {e T T':TypeId} {rest:List Value} {enc:γ->List TV}:(Iv n c b g cap e T T' sz rest enc l).rd ⟨c,0,none⟩=some (.pointer (some ⟨b,0,none⟩)):=by
 simp[Iv]
theorem rV {l:List γ} {n c b g cap:Nat} {e T T':TypeId} {rest:List Value} {enc:γ->List TV} (h:c≠b):(Iv n c b g cap e T T' sz rest enc l).rd ⟨b,0,none⟩=some (.slice (some ⟨g,0,none⟩) n cap):=by
 simp[Iv,h.symm]
theorem rQ {l:List γ} {i:Int} {k:Nat} {n c b g cap:Nat} {e T T':TypeId} {rest:List Value} {enc:γ->List TV} (a:∀x,(enc x).length=sz) {x:γ} {t:TV} {ad:Addr} (hi:gi l i=some x) (hk:(enc x)[k]?=some t) (hb:b≠g) (hc:c≠g) (f:ad=⟨g,i.toNat*sz+k,none⟩):(Iv n c b g cap e T T' sz rest enc l).rd ad=some t.val:=by
 subst f;obtain⟨i0,i1⟩:=IR hi;have lm:=(Ah.1 i1).1;have d:=(Ah.1 hk).1;rw[a]at d;have h:(i.toNat+1)*sz<=l.length*sz:=BH _ lm;rw[DJ]at h;have e1:(AU enc l)[i.toNat*sz+k]?=(enc x)[k]? :=by
  have h2:(AU enc l)[i.toNat*sz+k]?=((AU enc l).drop (i.toNat*sz))[k]? :=by rw[BS]
  rw[h2,K2 a l i.toNat,Bf lm,Q8];have e4:l[i.toNat]=x:=by rw[Ab lm]at i1;injection i1
  rw[e4,AR (by rw[a];exact d)]
 simp only[Iv,EH,BB,EM];rw[Az (λe=>hc e.symm),Az (λe=>hb e.symm),BR,Ax (by omega),AT,e1,hk];rfl
theorem z8 {o:Oper} (d:Nat) {ad:Addr} {x:Nat} (hk:FW P N ops rest (E.put (some d) (.one (.adr ad))) K) (hs:E.slots x= .one (.adr ad)) (ho:o.op= .nilCheck (.tmp x):=by rfl) (hd:o.dst=some d:=by rfl) (hN:Nat.blt d N=true:=by rfl) (hg:BK P ops E o=some true:=by rfl):FW P N ops (o::rest) E K:=
 FW.any d (.adr ad) hk (λw0 FA UA w a blk FS US h=>by
  have h1:=jB h hs;refine⟨.pointer (some ad),?_,by simp[CA],rfl⟩
  simp[execOp,ho,h1,Instr.sureAddr]) hd hN hg
def TL (o:Oper):Nat:=o.dst.getD 0
def ADQ (E:St) (ops:Array Oper) (i:Nat) (r:Root) (t:TV):St:=(((((E.put (some (TL (oA ops i))) (.one .junk)).put (some (TL (oA ops (i+1)))) (.one .junk)).setRoot r [t]).bump r).put (some (TL (oA ops (i+2)))) (.tup []))
def AB6:Operand->Nat
 | .tmp n=>n
 |_=>0
def jU (o:Oper):Nat:=match o.op with
 | .makeInterface _ x=>AB6 x
 |_=>0
def fK (o:Oper):Nat:=match o.op with
 | .makeFunc _ _ c=>AB6 (c[0]?.getD (.tmp 0))
 |_=>0
def AB8 (o:Oper):Array TypeId:=match o.op with
 | .call c=>c.argTypes
 |_=> #[]
def cI (s:SV):Nat:=match s with
 | .one (.view _ v _ _)=>v
 |_=>0
theorem RW.srt {rr:β} {l:List γ} {kk:List γ->Option β} {x:Option (List γ)} (h:x.bind kk=some rr) {enc:γ->List TV} {sz e t:Nat} {a:FuncId} (r:Root) (hs:∀l',x=some l'->SJ P (P2 (oA ops (i+2))) t e sz enc a l l') (hk:∀l',x=some l'->kk l'=some rr->RW P N ops (i+3) (ADQ E ops i r (.sl true e sz (AU enc l'))) Q) (b:∀x,(enc x).length=sz) (d:∀x,(enc x).all TV.flat=true) (hx:E.slots (jU (oA ops i))= .one (.view r (cI (E.slots (jU (oA ops i)))) [] 0):=by kernel_rfl) (c:E.ver r=cI (E.slots (jU (oA ops i))):=by kernel_rfl) (hp:E.ptr? (.tmp (fK (oA ops (i+1))))=some (r,[],0):=by kernel_rfl) (hc:E.boxes r=some [.sl true e sz (AU enc l)]:=by kernel_rfl) (hm:r.mem=true:=by kernel_rfl) (h1:(oA ops i).op= .makeInterface t (.tmp (jU (oA ops i))):=by kernel_rfl) (h2:(oA ops (i+1)).op= .makeFunc (.func a) #[] #[.tmp (fK (oA ops (i+1)))]:=by kernel_rfl) (h3:(oA ops (i+2)).op= .call {callee:= .value (.func (P2 (oA ops (i+2)))),args:= #[.tmp (TL (oA ops i)),.tmp (TL (oA ops (i+1)))],argTypes:=AB8 (oA ops (i+2))}:=by kernel_rfl) (k1:(oA ops i).dst=some (TL (oA ops i)):=by kernel_rfl) (k2:(oA ops (i+1)).dst=some (TL (oA ops (i+1))):=by kernel_rfl) (k3:(oA ops (i+2)).dst=some (TL (oA ops (i+2))):=by kernel_rfl) (g1:(oA ops i).guard=none:=by kernel_rfl) (g2:(oA ops (i+1)).guard=none:=by kernel_rfl) (g3:(oA ops (i+2)).guard=none:=by kernel_rfl) (hN:(Nat.blt (TL (oA ops i)) N&&Nat.blt (TL (oA ops (i+1))) N&&Nat.blt (TL (oA ops (i+2))) N&&!Nat.beq (TL (oA ops i)) (TL (oA ops (i+1)))&&!Nat.beq (fK (oA ops (i+1))) (TL (oA ops i))&&Nat.blt 0 sz&&Nat.blt (i+2) ops.size)=true:=by kernel_rfl) (ht:P.underlying t=some (.slice e):=by kernel_rfl) (hf:SQ P N (oA ops (i+2))=true:=by kernel_rfl):RW P N ops i E Q:=by
 obtain⟨l',hl',h⟩:=Av.1 h;simp only[An,CP]at hN;obtain⟨⟨⟨⟨⟨⟨q1,q2⟩,q3⟩,q4⟩,q5⟩,q6⟩,q7⟩:=hN;have b2:Nat.blt (i+1) ops.size=true:=by rw[Bt]at q7⊢;omega
 have b1:Nat.blt i ops.size=true:=by rw[Bt]at q7⊢;omega
 have hk':=hk l' hl' h;unfold RW at hk'⊢;rw[GR b1,GR b2,GR q7];exact Hr.srt (hs l' hl') hk' b d hx c hp hc hm h1 h2 h3 k1 k2 k3 g1 g2 g3 q1 q2 q3 q4 q5 q6 ht (OC hf).choose_spec.choose_spec.2.1
def jA (o:Oper):Nat:=match o.op with
 | .call c=>match c.args.toList with
  |[x]=>AB6 x
  |_=>0
 |_=>0
def jM (s:SV):Nat:=match s with
 | .one (.view (.slot n) _ _ _)=>n
 |_=>0
def Vw (P:Program) (f:FuncId) (t e sz:Nat) (enc:γ->List TV) (g:FuncId) (l l':List γ):Prop:=∀(w:World) (c b:Nat) (v:Value) (rest:List Value) (T T':TypeId),w.heap[c]?=some (.cells #[.pointer (some ⟨b,0,none⟩)] T' (0,0))->w.heap[b]?=some (.cells (v::rest).toArray T (0,0))->w.ownsRow 0 e sz v l.length ((AU enc l).map TV.val)->b∉Cc v->c∉Cc v->c≠b->
  Calls P f #[.iface t v,.func (.func g) #[] #[.pointer (some ⟨c,0,none⟩)]] w λr w'=>r= .returned (.tuple #[])/\GL w w' (c::b::Cc v)/\w'.heap[c]?=w.heap[c]? /\w'.heap[b]?=w.heap[b]? /\w'.ownsRow 0 e sz v l'.length ((AU enc l').map TV.val)
def yR (c b:Nat) (v:Value) (rest:List Value) (T T':TypeId) (e sz n:Nat) (xs:List Value):QZ where
 B:=c::b::Cc v
 I:=λw=>w.heap[c]?=some (.cells #[.pointer (some ⟨b,0,none⟩)] T' (0,0))/\w.heap[b]?=some (.cells (v::rest).toArray T (0,0))/\w.ownsRow 0 e sz v n xs
 st:=λw w' h hk=>⟨by rw[hk c (by simp)];exact h.1,by rw[hk b (by simp)];exact h.2.1,h.2.2.1,by
  rcases h.2.2.2 with q|⟨g,cap,a,rfl,q1,q2,q3⟩
  ·exact .inl q
  exact .inr ⟨g,cap,a,rfl,q1,by rw[hk g (by simp[Cc,Value.ownBlock])];exact q2,q3⟩⟩
theorem ABA {l l':List γ} {rc:Root} {o1 o2 o3:Oper} {ver:Nat} {enc:γ->List TV} {sz e t:Nat} {f g:FuncId} {rs:List TV} {d1 d2 d3 x p b0:Nat} {tys:Array TypeId} (hs:Vw P f t e sz enc g l l') (hk:Hr P N ops rest (((((E.put (some d1) (.one .junk)).put (some d2) (.one .junk)).setRoot (.ext 0) (.sl true e sz (AU enc l')::rs)).bump (.ext 0)).put (some d3) (.tup [])) Q) (u:∀x,(enc x).length=sz) (j:∀x,(enc x).all TV.flat=true) (hpin:E.amb.pin=some b0) (hx:E.slots x= .one (.view (.ext 0) ver [] 0)) (y:E.ver (.ext 0)=ver) (hp:E.ptr? (.tmp p)=some (rc,[],0)) (hc:E.boxes (.ext 0)=some (.sl true e sz (AU enc l)::rs)) (c:E.boxes rc=some [.adr ⟨b0,0,none⟩]) (hm:rc.mem=true) (h1:o1.op= .makeInterface t (.tmp x)) (h2:o2.op= .makeFunc (.func g) #[] #[.tmp p]) (h3:o3.op= .call {callee:= .value (.func f),args:= #[.tmp d1,.tmp d2],argTypes:=tys}) (k1:o1.dst=some d1) (k2:o2.dst=some d2) (k3:o3.dst=some d3) (g1:o1.guard=none) (g2:o2.guard=none) (g3:o3.guard=none) (h9:Nat.blt d1 N=true) (a0:Nat.blt d2 N=true) (a1:Nat.blt d3 N=true) (a2:Nat.beq d1 d2=false) (z:Nat.beq p d1=false) (a3:Nat.blt 0 sz=true) (ht:P.underlying t=some (.slice e)) (hf:bQ P f):Hr P N ops (o1::o2::o3::rest) E Q:=by
 have hN1':d1<N:=by simpa[Bt]using h9
 have hN2':d2<N:=by simpa[Bt]using a0
 have hN3':d3<N:=by simpa[Bt]using a1
 have hne':d1≠d2:=by intro e;subst e;simp at a2
 have hne2':p≠d1:=by intro e;subst e;simp at z
 have hsz':0<sz:=by simpa[Bt]using a3
 have a4:rc≠ .ext 0:=by
  rintro rfl;rw[hc]at c
  injection c with c
  injection c with c
  cases c
 intro w0 FA UA w a blk FS US hr hF hU;have h0:blk (.ext 0)=b0:=by rw[hr.xblk,hr.pin b0 hpin]
 obtain⟨v,vs,T,F2,U1,U2,b1,b2,b3,b4,b5⟩:∃v vs T F2 U1 U2,w.heap[blk (.ext 0)]?=some (.cells (v::vs).toArray T (0,0))/\(∃F1,CA w (.sl true e sz (AU enc l)) v F1 U1/\FS (.ext 0)=blk (.ext 0)::(F1++F2))/\B8 w rs vs F2 U2/\US (.ext 0)=U1++U2/\True:=by
  rcases hr.box (.ext 0) rfl with⟨q1,_⟩|⟨cs,h,T,F,q1,q2,q3,q4⟩
  ·rw[hc]at q1;cases q1
  rw[hc]at q1
  injection q1 with q1
  subst q1;simp only[B8]at q3;obtain⟨v,k,F1,F2,U1,U2,e1,rfl,e3,q5,q6⟩:=q3;have:h=(v::k).toArray:=by apply SU;simpa using e1
  subst this;exact⟨v,k,T,F2,U1,U2,q2,⟨F1,q5,q4⟩,q6,e3,trivial⟩
 obtain⟨F1,b2,b6⟩:=b2;obtain⟨T',c1⟩:∃T',w.heap[blk rc]?=some (.cells #[.pointer (some ⟨b0,0,none⟩)] T' (0,0)):=by
  rcases hr.box rc hm with⟨q1,_⟩|⟨cs,h,T,F,q1,q2,q3,q4⟩
  ·rw[c]at q1;cases q1
  rw[c]at q1
  injection q1 with q1
  subst q1;simp only[B8,CA]at q3;obtain⟨v,k,F1,F2,U1,U2,e1,rfl,e3,⟨rfl,_⟩,rfl,_⟩:=q3;have:h= #[.pointer (some ⟨b0,0,none⟩)]:=by apply SU;simpa using e1
  subst this;exact⟨T,q2⟩
 have a5:blk rc∈FS rc:=by
  rcases hr.box rc hm with⟨q1,_⟩|⟨cs,h,T,F,q1,q2,q3,q4⟩
  ·rw[c]at q1;cases q1
  rw[q4];simp
 simp only[CA]at b2;obtain⟨n,xs,F',b7,b8,rfl⟩:=b2;have a6:=UK b8 (Gs j l);obtain⟨rfl,rfl⟩:=LC b8 (Gs j l);subst a6;have a7:n=l.length:=by
  have q:=b7.1;rw[AZ,Fq u l]at q;exact(Nat.eq_of_mul_eq_mul_right hsz' q).symm
 subst a7;rw[A0]at b6;rw[AA]at b4;have h4:=hr.nodup (.ext 0);rw[b6]at h4
 have a8:blk (.ext 0)∉Cc v:=λhx=>(Dd.1 h4).1 (AE _ hx)
 have h5:∀x∈FS (.ext 0),x≠blk rc:=λx hx e=>hr.dis _ _ a4 _ a5 (e▸hx)
 have a9:blk rc∉Cc v:=λhx=>h5 (blk rc) (by rw[b6];exact C4 _ (AE _ hx)) rfl
 have c0:blk rc≠blk (.ext 0):=λe=>h5 (blk (.ext 0)) (by rw[b6];simp) e.symm
 have evx:a.eval (.tmp x)=v:=by
  have q:=hr.slot x;rw[hx]at q;simp only[EJ,CX]at q;obtain⟨⟨_,_,_,q4⟩,_⟩:=q;obtain⟨q5,_⟩:=q4 y;simpa[pv,BZ,Addr.add,World.cell?,b1]using q5.symm
 have evp:a.eval (.tmp p)= .pointer (some ⟨blk rc,0,none⟩):=by
  obtain⟨_,ad,q1,q2⟩:=KK hr hp;rw[q2]
  cases rc with
  |slot n=>cases hm
  |hand=>cases hm
  |box n=>simp[pa,Addr.add]at q1;rw[<-q1]
  |ext n=>simp[pa,Addr.add]at q1;rw[<-q1]
 obtain⟨FS1,US1,r1,r2,r3⟩:=Vc hr hF hU hN1' (.iface t v);have e1:(execOp a.eval o1).run P w= .ok (.value (.iface t v)) w:=by
  simp[execOp,h1,Instr.makeInterface,run_underlying ht,evx]
 simp only[wpList,Cv hr (JZ (P:=P) (ops:=ops) g1),BR];refine .inl ?_
 try unfold Oper.wp
 rw[e1,Oper.upon_value,k1];have evp1:(a.put (some d1) (.iface t v)).eval (.tmp p)= .pointer (some ⟨blk rc,0,none⟩):=by rw[D3 hne2',evp]
 obtain⟨FS2,US2,s1,s2,s3⟩:=Vc r1 r2 r3 hN2' (.func (.func g) #[] #[.pointer (some ⟨blk rc,0,none⟩)]);have e2:(execOp (a.put (some d1) (.iface t v)).eval o2).run P w= .ok (.value (.func (.func g) #[] #[.pointer (some ⟨blk rc,0,none⟩)])) w:=by
  simp[execOp,h2,Instr.makeFunc,evp1]
 simp only[wpList,Cv r1 (JZ (P:=P) (ops:=ops) g2),BR];refine .inl ?_
 try unfold Oper.wp
 rw[e2,Oper.upon_value,k2];simp only[wpList,Cv s1 (JZ (P:=P) (ops:=ops) g3),BR];refine .inl ?_;have c2:d1<a.tmps.size:=Bg hN1' hr.len;have c6:d2<(a.put (some d1) (.iface t v)).tmps.size:=Bg hN2' r1.len
 try unfold Oper.wp
 rw[IE h3 hf];have ea: #[Operand.tmp d1,.tmp d2].map ((a.put (some d1) (.iface t v)).put (some d2) (.func (.func g) #[] #[.pointer (some ⟨blk rc,0,none⟩)])).eval= #[.iface t v,.func (.func g) #[] #[.pointer (some ⟨blk rc,0,none⟩)]]:=by
  simp[G6 c6,D3 hne',G6 c2]
 rw[ea];simp only[Oper.upon];refine Calls.mono (hs w (blk rc) (blk (.ext 0)) v vs T T' (by rw[h0];exact c1) b1 b7 a8 a9 c0) ?_;rintro ee w' ⟨rfl,i,c7,h6,c8⟩;have o:((E.put (some d1) (.one .junk)).put (some d2) (.one .junk)).boxes (.ext 0)=some (.sl true e sz (AU enc l)::rs):=hc;obtain⟨G1,G2,V2,f1,f2,f3,f4⟩:∃G1 G2 V2,FS2 (.ext 0)=blk (.ext 0)::(G1++G2)/\G1=Cc v/\US2 (.ext 0)=V2/\B8 w rs vs G2 V2:=by
  rcases s1.box (.ext 0) rfl with⟨q1,_⟩|⟨cs,h,T2,F2,q1,q2,q3,q4⟩
  ·rw[o]at q1;cases q1
  rw[o]at q1
  injection q1 with q1
  subst q1;rw[b1]at q2
  injection q2 with q2
  injection q2 with q2
  subst q2;simp only[B8]at q3;obtain⟨v2,k,F3,F4,U1,U2,e1,rfl,e3,q5,q6⟩:=q3;simp at e1;obtain⟨rfl,rfl⟩:=e1;simp only[CA]at q5;obtain⟨n,vs,F',c4,c5,rfl⟩:=q5;obtain⟨rfl,rfl⟩:=LC c5 (Gs j l);exact⟨_,_,_,q4,by simp,by rw[e3];rfl,q6⟩
 subst f2;have m:=s1.nodup (.ext 0);rw[f1]at m;have d0:blk rc∈FS2 rc:=by
  have h7:((E.put (some d1) (.one .junk)).put (some d2) (.one .junk)).boxes rc=some [.adr ⟨b0,0,none⟩]:=c
  rcases s1.box rc hm with⟨q1,_⟩|⟨cs,h,T,F,q1,q2,q3,q4⟩
  ·rw[h7]at q1;cases q1
  rw[q4];simp
 have keepb:∀b,b<w.heap.size->b∉Cc v->w'.heap[b]?=w.heap[b]? :=by
  intro b hb hv;by_cases q1:b=blk rc
  ·rw[q1];exact c7
  by_cases q2:b=blk (.ext 0)
  ·rw[q2];exact h6
  exact i.keep b hb (by simp only[B7,not_or];exact⟨q1,q2,hv⟩)
 have h8:GL w w' (FS2 (.ext 0)):=⟨i.os,i.tape,i.output,i.size,λb hb hn=>keepb b hb (λhv=>hn (by rw[f1];exact C4 _ (AE _ hv)))⟩
 have hG:∀b∈G2,w'.heap[b]?=w.heap[b]? :=λb hb=>keepb b (s1.inF (.ext 0) b (by rw[f1];exact C4 _ (AM _ hb))).2
  (λhv=>(Bu.1 (Dd.1 m).2).2.2 b hv b hb rfl)
 have hV:∀b∈V2,w'.heap[b]?=w.heap[b]? :=λb hb=>keepb b (s1.inU (.ext 0) b (by rw[f3];exact hb)).2
  (λhv=>s1.disU (.ext 0) (.ext 0) b (by rw[f1];exact C4 _ (AE _ hv)) (by rw[f3];exact hb))
 obtain⟨FS3,US3,t1,t2,t3⟩:=s1.turn s2 s3 (r:= .ext 0) rfl o (cells':= .sl true e sz (AU enc l')::rs) (by simp) (w':=w') h8
  ⟨(
   v::vs).toArray,T,Cc v++G2,by rw[h6];exact b1,by
   rw[f3];simp only[B8];refine⟨v,vs,Cc v,G2,[],V2,by simp,rfl,rfl,?_,Gm f4 hG hV⟩;simp only[CA]
   exact⟨l'.length,_,[],c8,Uc (Gs j l'),by simp⟩,f1⟩
 obtain⟨FS4,US4,u1,u2,u3⟩:=t1.land (w':=w') (d:=d3) (s:= .tup []) (v:= .tuple #[]) (F:=[]) (U:=[]) hN3' (by simp[EJ,OH]) CE (by simp) (by simp) (A3 _) rfl rfl rfl (λ_ _ _=>rfl);rw[k3];exact hk _ _ _ _ _ _ _ _ u1 u2 u3
def ABG:Option (List TV)->List TV
 |some (_::ts)=>ts
 |_=>[]
def rt0:Option (Root×List Nat×Nat)->Root
 |some (r,_,_)=>r
 |none=> .hand
def s2E (E:St) (ops:Array Oper) (i:Nat) (t:TV):St:=(((((E.put (some (TL (oA ops i))) (.one .junk)).put (some (TL (oA ops (i+1)))) (.one .junk)).setRoot (.ext 0) (t::ABG (E.boxes (.ext 0)))).bump (.ext 0)).put (some (TL (oA ops (i+2)))) (.tup []))
theorem ACG {rr:β} {l:List γ} {kk:List γ->Option β} {x:Option (List γ)} (h:x.bind kk=some rr) {enc:γ->List TV} {sz e t b0:Nat} {a:FuncId} (hs:∀l',x=some l'->Vw P (P2 (oA ops (i+2))) t e sz enc a l l') (hk:∀l',x=some l'->kk l'=some rr->RW P N ops (i+3) (s2E E ops i (.sl true e sz (AU enc l'))) Q) (b:∀x,(enc x).length=sz) (d:∀x,(enc x).all TV.flat=true) (hpin:E.amb.pin=some b0:=by kernel_rfl) (hx:E.slots (jU (oA ops i))= .one (.view (.ext 0) (cI (E.slots (jU (oA ops i)))) [] 0):=by kernel_rfl) (c:E.ver (.ext 0)=cI (E.slots (jU (oA ops i))):=by kernel_rfl) (hp:E.ptr? (.tmp (fK (oA ops (i+1))))=some (rt0 (E.ptr? (.tmp (fK (oA ops (i+1))))),[],0):=by kernel_rfl) (hc:E.boxes (.ext 0)=some (.sl true e sz (AU enc l)::ABG (E.boxes (.ext 0))):=by kernel_rfl) (f:E.boxes (rt0 (E.ptr? (.tmp (fK (oA ops (i+1))))))=some [.adr ⟨b0,0,none⟩]:=by kernel_rfl) (hm:(rt0 (E.ptr? (.tmp (fK (oA ops (i+1)))))).mem=true:=by kernel_rfl) (h1:(oA ops i).op= .makeInterface t (.tmp (jU (oA ops i))):=by kernel_rfl) (h2:(oA ops (i+1)).op= .makeFunc (.func a) #[] #[.tmp (fK (oA ops (i+1)))]:=by kernel_rfl) (h3:(oA ops (i+2)).op= .call {callee:= .value (.func (P2 (oA ops (i+2)))),args:= #[.tmp (TL (oA ops i)),.tmp (TL (oA ops (i+1)))],argTypes:=AB8 (oA ops (i+2))}:=by kernel_rfl) (k1:(oA ops i).dst=some (TL (oA ops i)):=by kernel_rfl) (k2:(oA ops (i+1)).dst=some (TL (oA ops (i+1))):=by kernel_rfl) (k3:(oA ops (i+2)).dst=some (TL (oA ops (i+2))):=by kernel_rfl) (g1:(oA ops i).guard=none:=by kernel_rfl) (g2:(oA ops (i+1)).guard=none:=by kernel_rfl) (g3:(oA ops (i+2)).guard=none:=by kernel_rfl) (hN:(Nat.blt (TL (oA ops i)) N&&Nat.blt (TL (oA ops (i+1))) N&&Nat.blt (TL (oA ops (i+2))) N&&!Nat.beq (TL (oA ops i)) (TL (oA ops (i+1)))&&!Nat.beq (fK (oA ops (i+1))) (TL (oA ops i))&&Nat.blt 0 sz&&Nat.blt (i+2) ops.size)=true:=by kernel_rfl) (ht:P.underlying t=some (.slice e):=by kernel_rfl) (hf:SQ P N (oA ops (i+2))=true:=by kernel_rfl):RW P N ops i E Q:=by
 obtain⟨l',hl',h⟩:=Av.1 h;simp only[An,CP]at hN;obtain⟨⟨⟨⟨⟨⟨q1,q2⟩,q3⟩,q4⟩,q5⟩,q6⟩,q7⟩:=hN;have b2:Nat.blt (i+1) ops.size=true:=by rw[Bt]at q7⊢;omega
 have b1:Nat.blt i ops.size=true:=by rw[Bt]at q7⊢;omega
 have hk':=hk l' hl' h;unfold RW at hk'⊢;rw[GR b1,GR b2,GR q7];exact ABA (hs l' hl') hk' b d hpin hx c hp hc f hm h1 h2 h3 k1 k2 k3 g1 g2 g3 q1 q2 q3 q4 q5 q6 ht (OC hf).choose_spec.choose_spec.2.1
theorem AD9 {f:FuncId} {c:Code} {a cells':List TV} {b:SV} (hf:P.funcs[f]?=some fn) (hb:fn.body=some c) (hN:fn.ntmps=N) (h:∀b0,Wp P N c (DL (.ext a::as) (kX b0)) λe E=>(e= .normal\/e= .ret)/\∃ss E',Ef P E fn.results.toList=some (ss,E')/\EU ss=b/\E'.boxes (.ext 0)=some cells') (d:cells'.isEmpty=false:=by rfl):AI P f (.ext a::as) b (.ext cells'::List.replicate as.length .gone):=Zu kX AAL hf hb (by rw[hN];exact h) d
end Go.TI
