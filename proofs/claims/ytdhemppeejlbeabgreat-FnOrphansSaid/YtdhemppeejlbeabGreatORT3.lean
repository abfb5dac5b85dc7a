/- What walks of Go code need. No condition. -/
import Derived.Test.YtdhemppeejlbeabGreatORT2
import Derived.KernelRfl
import Derived.Laws.StructEq
set_option linter.unusedVariables false
namespace Go.TI
open Go Go.RowKit
def oA (ops:Array Oper) (i:Nat):Oper:=match ops[i]? with
 |some o=>o
 | none => { dst := none, op := .load 0 (.tmp 0), type := 0, pos := "", after := #[], guard := none }
variable {E E' E1:St} {P:Program} {N i sz m d b j sz' by_ e':Nat} {ops:Array Oper} {Q:Exit->St->Prop} {α β γ α' V A:Type} {dn FA UA:List Nat} {n n':Int} {w:World} {s:SV} {blk:Root->Nat} {K:St->Prop} {as:List AV} {FS US:Root->List Nat} {mv:Bool} {fn:Func} {row row':List TV} {k:IntKind} {t':TV} {sf:FuncId} {rest:List Oper} {f:α->List TV} {r:β} {l:List α} {kk:α->Option β} {tx:Option β} {ty:Option β} {f':α'->List TV} {l':List α'} {x':α'} {u:List α} {Am:List γ->P2} {fin:α->List TV}
theorem Iw {ops:Array Oper} (h:Nat.blt i ops.size=true):ops[i]?=some (oA ops i):=by
 have:i<ops.size:=by simpa [Bn]using h
 unfold oA;rw [Array.getElem?_eq_getElem this]
theorem Gp {ops:Array Oper} (h:Nat.blt i ops.size=true):ops.toList.drop i=oA ops i::ops.toList.drop (i+1):=by
 have hi:i<ops.toList.length:=by simpa [Bn]using h
 have h1:=Iw h;rw [<-Array.getElem?_toList,Ab hi]at h1
 injection h1 with h1
 rw [Bj hi,h1]
def P7 (P:Program) (ops:Array Oper) (E:St) (i:Nat):Bool:=Nat.blt i ops.size&&(match BE P ops E (oA ops i)with|some b=>b|none=>false)
theorem H5 {ops:Array Oper} (h:P7 P ops E i=true):Nat.blt i ops.size=true/\BE P ops E (oA ops i)=some true:=by
 simp only [P7,Al]at h;refine⟨h.1,?_⟩;have h2:=h.2;split at h2
 ·rename_i b hb;rw [hb,h2]
 cases h2
def FQ (N:Nat) (o:Oper):Bool:=match o.dst with
 |some d=>Nat.blt d N
 |none=>false
theorem E4 {o:Oper} (h:FQ N o=true):∃d,o.dst=some d/\Nat.blt d N=true/\d<N:=by
 unfold FQ at h;split at h
 ·rename_i d hd;exact⟨d,hd,h,by simpa [Bn]using h⟩
 cases h
def pR (P:Program) (N:Nat) (ops:Array Oper) (mv:Bool) (E:St) (i:Nat):Option St:=bif Nat.blt i ops.size then
  match BE P ops E (oA ops i)with
  |some true=>C4 P N mv E (oA ops i)
  |some false=>bif FQ N (oA ops i)then some (E.put (oA ops i).dst (.tup []))else none
  |none=>none
 else none
def Rs (P:Program) (N:Nat) (ops:Array Oper):Nat->Nat->Nat->St->Option St
 |0,_,_,E=>some E
 |k+1,m,i,E=>match pR P N ops (Nat.beq (m %2) 1) E i with
  |some E'=>Rs P N ops k (m/2) (i+1) E'
  |none=>none
def P3 (P:Program) (N:Nat) (ops:Array Oper) (k m i:Nat) (E:St):St:=(Rs P N ops k m i E).getD E
theorem getD_some {α:Type _} {x:Option α} {a:α} (h:x.isSome=true):x=some (x.getD a):=by
 cases x with
 |none=>cases h
 |some y=>rfl
def RW (P:Program) (N:Nat) (ops:Array Oper) (i:Nat) (E:St) (Q:Exit->St->Prop):Prop:=GX P N ops (ops.toList.drop i) E Q
def SW (P:Program) (N:Nat) (ops:Array Oper) (m i:Nat) (E:St) (K:St->Prop):Prop:=GL P N ops ((ops.toList.take m).drop i) E K
theorem bd {k:α->Option β} {G:Prop} {x:Option α} (h:x.bind k=some r) (hk:∀a,x=some a->k a=some r->G):G:=by
 obtain⟨a,ha,h⟩:=Ar.1 h;exact hk a ha h
theorem RW.nil (h:Q .normal E) (hi:Nat.ble ops.size i=true:=by kernel_rfl):RW P N ops i E Q:=by
 have:ops.size<=i:=by simpa [Oa]using hi
 unfold RW;rw [CR (by simpa using this)];exact GX.nil h
theorem Ct (hs:C4 P N mv E (oA ops i)=some E') (h:RW P N ops (i+1) E' Q) (hk:P7 P ops E i=true:=by kernel_rfl):RW P N ops i E Q:=by
 obtain⟨h1,h2⟩:=H5 hk;unfold RW;rw [Gp h1];exact GX.op mv h2 hs h
theorem RW.st (hs:pR P N ops mv E i=some E') (h:RW P N ops (i+1) E' Q):RW P N ops i E Q:=by
 unfold pR at hs
 cases hi:Nat.blt i ops.size with
 |false=>rw [hi]at hs;cases hs
 |true=>
  rw [hi]at hs;simp only [Af]at hs;unfold RW;rw [Gp hi];split at hs
  ·rename_i hg;exact GX.op mv hg hs h
  ·rename_i hg
   cases hd:FQ N (oA ops i)with
   |false=>rw [hd]at hs;cases hs
   |true=>
    rw [hd]at hs;simp only [Af]at hs
    injection hs with hs
    subst hs;obtain⟨d,h1,_,h2⟩:=E4 hd;rw [h1]at h;exact tR h1 h2 hg h
  cases hs
theorem RW.run:∀{k m i:Nat} {E E':St},Rs P N ops k m i E=some E'->RW P N ops (i+k) E' Q->RW P N ops i E Q
 |0,m,i,E,E',h,hw=>by
  simp only [Rs]at h
  injection h with h
  subst h;exact hw
 |k+1,m,i,E,E',h,hw=>by
  simp only [Rs]at h;split at h
  ·rename_i E1 h1;exact RW.st h1 (RW.run h (by rw [HE,Vw 1 k];exact hw))
  cases h
theorem o7 (k m:Nat) (h:RW P N ops (i+k) (P3 P N ops k m i E) Q) (hk:(Rs P N ops k m i E).isSome=true:=by kernel_rfl):RW P N ops i E Q:=RW.run (getD_some hk) h
def qN (P:Program) (N:Nat) (ops:Array Oper) (i:Nat) (E:St):Bool:=P7 P ops E i&&pk (oA ops i)&&FQ N (oA ops i)
theorem iP (h:qN P N ops i E=true):P7 P ops E i=true/\pk (oA ops i)=true/\∃d,(oA ops i).dst=some d/\Nat.blt d N=true/\d<N:=by
 simp only [qN,Al]at h;exact⟨h.1.1,h.1.2,E4 h.2⟩
theorem RW.q (hp:Bh P E (oA ops i)=some s) (h:RW P N ops (i+1) (E.put (oA ops i).dst s) Q) (hk:qN P N ops i E=true:=by kernel_rfl):RW P N ops i E Q:=by
 obtain⟨h1,h2,d,h3,h4,_⟩:=iP hk;rw [h3]at h;exact Ct (lF hp h3 h4 h2) h h1
theorem AAK {b:Bool} (t:Nat) (h:(bif b then tx else ty)=some r) (ht:tx=some r->RW P N ops i (E.rs t true) Q) (hf:ty=some r->RW P N ops i (E.rs t false) Q) (hc:E.slots t=B b:=by kernel_rfl):RW P N ops i E Q:=zS h t ht hf hc
theorem Pe (h:Nat.blt i ops.size=true) (hm:Nat.blt i m=true):(ops.toList.take m).drop i=oA ops i::(ops.toList.take m).drop (i+1):=by
 have hi:i<ops.size:=by simpa [Bn]using h
 have a:i<m:=by simpa [Bn]using hm
 have hl:i<(ops.toList.take m).length:=by simp;omega
 have h1:=Iw h;rw [Bj hl];congr 1;rw [JB];rw [<-Array.getElem?_toList,Ab (by simpa using hi)]at h1;injection h1
theorem SW.nil (h:K E) (hi:(Nat.ble ops.size i||Nat.ble m i)=true:=by kernel_rfl):SW P N ops m i E K:=by
 unfold SW
 rw [CR (by
  rw [Cy]at hi
  rcases hi with hi|hi
  ·have:ops.size<=i:=by simpa [Oa]using hi
   simp;omega
  have:m<=i:=by simpa [Oa]using hi
  simp;omega)]
 exact GL.nil h
def hZ (P:Program) (N:Nat) (ops:Array Oper) (m:Nat) (E:St) (i:Nat):Option St:=bif Nat.blt i ops.size&&Nat.blt i m&&FQ N (oA ops i)then
  match BE P ops E (oA ops i)with
  |some true=>match IU P E (oA ops i)with
   |some s=>some (E.put (oA ops i).dst s)
   |none=>none
  |some false=>some (E.put (oA ops i).dst (.tup []))
  |none=>none
 else none
def YD (P:Program) (N:Nat) (ops:Array Oper) (m:Nat):Nat->Nat->St->Option St
 |0,_,E=>some E
 |k+1,i,E=>match hZ P N ops m E i with
  |some E'=>YD P N ops m k (i+1) E'
  |none=>none
theorem SW.st (hs:hZ P N ops m E i=some E') (h:SW P N ops m (i+1) E' K):SW P N ops m i E K:=by
 unfold hZ at hs
 cases hb:(Nat.blt i ops.size&&Nat.blt i m&&FQ N (oA ops i))with
 |false=>rw [hb]at hs;cases hs
 |true=>
  rw [hb]at hs;simp only [Af]at hs;simp only [Al]at hb;obtain⟨d,h1,_,h2⟩:=E4 hb.2;unfold SW;rw [Pe hb.1.1 hb.1.2];split at hs
  ·rename_i hg;split at hs
   ·rename_i s a
    injection hs with hs
    subst hs;rw [h1]at h;exact GL.op s hg h1 h2 a h
   cases hs
  ·rename_i hg
   injection hs with hs
   subst hs;rw [h1]at h;exact tL h1 h2 hg h
  cases hs
theorem SW.run:∀{k i:Nat} {E E':St},YD P N ops m k i E=some E'->SW P N ops m (i+k) E' K->SW P N ops m i E K
 |0,i,E,E',h,hw=>by
  simp only [YD]at h
  injection h with h
  subst h;exact hw
 |k+1,i,E,E',h,hw=>by
  simp only [YD]at h;split at h
  ·rename_i E1 h1;exact SW.st h1 (SW.run h (by rw [HE,Vw 1 k];exact hw))
  cases h
theorem Du (k:Nat) (h:SW P N ops m (i+k) ((YD P N ops m k i E).getD E) K) (hk:(YD P N ops m k i E).isSome=true:=by kernel_rfl):SW P N ops m i E K:=SW.run (getD_some hk) h
theorem SW.q (hp:Bh P E (oA ops i)=some s) (h:SW P N ops m (i+1) (E.put (oA ops i).dst s) K) (hk:(qN P N ops i E&&Nat.blt i m)=true:=by kernel_rfl):SW P N ops m i E K:=by
 rw [Al]at hk;obtain⟨h1,h2,d,h3,h4,h5⟩:=iP hk.1;obtain⟨h6,h7⟩:=H5 h1;rw [h3]at h;unfold SW;rw [Pe h6 hk.2];exact GL.op s h7 h3 h5 (lG hp h2) h
theorem X5 {b:Bool} (t:Nat) (h:(bif b then tx else ty)=some r) (ht:tx=some r->SW P N ops m i (E.rs t true) K) (hf:ty=some r->SW P N ops m i (E.rs t false) K) (hc:E.slots t=B b:=by kernel_rfl):SW P N ops m i E K:=zK h t ht hf hc
def y9 (n:Nat):List Nat->Array Bool
 |[]=>Array.replicate n false
 |i::l=>(y9 n l).setIfInBounds i true
def KW (P:Program) (N:Nat) (ops:Array Oper) (ts:List Nat) (dn:List Nat) (E:St) (Q:Exit->St->Prop):Prop:=Vi P N ops ts (ops.size-dn.length) (y9 ops.size dn) E Q
def KB (P:Program) (N:Nat) (ops:Array Oper) (ts:List Nat) (dn:List Nat) (i:Nat) (E:St) (Q:Exit->St->Prop):Prop:=ZI P N ops ts i E (λE'=>KW P N ops ts (i::dn) E' Q) Q
theorem AW {ts:List Nat} (h:Q .normal E) (hr:(Region.ready .any ops (y9 ops.size dn)).isEmpty=true:=by kernel_rfl):KW P N ops ts dn E Q:=tS h (by simpa using hr)
def pC (ops:Array Oper) (dn l:List Nat):Bool:=(Region.ready .any ops (y9 ops.size dn)==l)&&Nat.blt dn.length ops.size
theorem Tf (h:Nat.blt dn.length ops.size=true):ops.size-dn.length=(ops.size-(i::dn).length)+1:=by
 have:dn.length<ops.size:=by simpa [Bn]using h
 simp only [Az];omega
theorem KW.all {ts:List Nat} (l:List Nat) (h:∀i∈l,KB P N ops ts dn i E Q) (a:l≠ []) (hr:pC ops dn l=true):KW P N ops ts dn E Q:=by
 simp only [pC,Al,Dn]at hr;unfold KW;rw [Tf (i:=0) hr.2];exact Vi.all l (λi hi=>h i hi) hr.1 a
theorem Bs {ts:List Nat} (i:Nat) (h:KB P N ops ts dn i E Q) (hr:pC ops dn [i]=true:=by kernel_rfl):KW P N ops ts dn E Q:=KW.all [i] (λj hj=>by simp only [Ay]at hj;subst hj;exact h) (by simp) hr
theorem CH {ts:List Nat} (i j:Nat) (h:KB P N ops ts dn i E Q) (h2:KB P N ops ts dn j E Q) (hr:pC ops dn [i,j]=true:=by kernel_rfl):KW P N ops ts dn E Q:=KW.all [i,j] (λm hm=>by
 simp only [BB,List.not_mem_nil,or_false]at hm
 rcases hm with rfl|rfl<;>assumption) (by simp) hr
theorem Vj {ts:List Nat} (i j k:Nat) (h:KB P N ops ts dn i E Q) (h2:KB P N ops ts dn j E Q) (h3:KB P N ops ts dn k E Q) (hr:pC ops dn [i,j,k]=true:=by kernel_rfl):KW P N ops ts dn E Q:=KW.all [i,j,k] (λm hm=>by
 simp only [BB,List.not_mem_nil,or_false]at hm
 rcases hm with rfl|rfl|rfl<;>assumption) (by simp) hr
theorem yF {ts:List Nat} (i j k l:Nat) (h:KB P N ops ts dn i E Q) (h2:KB P N ops ts dn j E Q) (h3:KB P N ops ts dn k E Q) (h4:KB P N ops ts dn l E Q) (hr:pC ops dn [i,j,k,l]=true:=by kernel_rfl):KW P N ops ts dn E Q:=KW.all [i,j,k,l] (λm hm=>by
 simp only [BB,List.not_mem_nil,or_false]at hm
 rcases hm with rfl|rfl|rfl|rfl<;>assumption) (by simp) hr
theorem Gh {ts:List Nat} (hs:C4 P N mv E (oA ops i)=some E') (h:KW P N ops ts (i::dn) E' Q) (hk:(P7 P ops E i&&(kp (oA ops i)||ts.contains i))=true:=by kernel_rfl):KB P N ops ts dn i E Q:=by
 rw [Al]at hk;obtain⟨h1,h2⟩:=H5 hk.1;exact ZI.op i mv h hs (Iw h1) h2 hk.2
theorem KB.q {ts:List Nat} (hp:Bh P E (oA ops i)=some s) (h:KW P N ops ts (i::dn) (E.put (oA ops i).dst s) Q) (hk:(qN P N ops i E&&(kp (oA ops i)||ts.contains i))=true:=by kernel_rfl):KB P N ops ts dn i E Q:=by
 rw [Al]at hk;obtain⟨h1,h2,d,h3,h4,h5⟩:=iP hk.1;rw [h3]at h;exact Gh (lF hp h3 h4 h2) h (by rw [h1,hk.2];rfl)
def gT (ops:Array Oper) (ts dn:List Nat) (i:Nat):Bool:=Nat.blt dn.length ops.size&&Re ops ts ops.size i (y9 ops.size dn)
theorem zX {ts:List Nat} (i:Nat) (hp:IU P E (oA ops i)=some s) (h:KW P N ops ts (i::dn) (E.put (oA ops i).dst s) Q) (hk:(P7 P ops E i&&FQ N (oA ops i)&&gT ops ts dn i)=true):KW P N ops ts dn E Q:=by
 simp only [Al,gT]at hk;obtain⟨⟨h1,h2⟩,h3,h4⟩:=hk;obtain⟨h5,h6⟩:=H5 h1;obtain⟨d,h7,h8,_⟩:=E4 h2;unfold KW at h⊢;rw [Tf (i:=i) h3];rw [h7]at h;exact Vi.take ops.size i d s h hp (Iw h5) h4 h6 h7 h8
theorem KW.q {ts:List Nat} (i:Nat) (hp:Bh P E (oA ops i)=some s) (h:KW P N ops ts (i::dn) (E.put (oA ops i).dst s) Q) (hk:(qN P N ops i E&&gT ops ts dn i)=true:=by kernel_rfl):KW P N ops ts dn E Q:=by
 rw [Al]at hk;have h0:=hk.1;simp only [qN,Al]at h0;exact zX i (lG hp h0.1.2) h (by rw [h0.1.1,h0.2,hk.2];rfl)
theorem AAQ {ts:List Nat} (i:Nat) (h:KW P N ops ts (i::dn) (E.put (oA ops i).dst (.tup [])) Q) (hg:BE P ops E (oA ops i)=some false) (hk:(Nat.blt i ops.size&&FQ N (oA ops i)&&gT ops ts dn i)=true):KW P N ops ts dn E Q:=by
 simp only [Al,gT]at hk;obtain⟨⟨h1,h2⟩,h3,h4⟩:=hk;obtain⟨d,h7,h8,_⟩:=E4 h2;unfold KW at h⊢;rw [Tf (i:=i) h3];rw [h7]at h;exact cW ops.size i d h (Iw h1) h4 hg h7 h8
def rW (P:Program) (N:Nat) (ops:Array Oper) (ts:List Nat) (mv:Bool) (dn:List Nat) (E:St) (i:Nat):Option St:=match BE P ops E (oA ops i)with
 |some false=>bif Nat.blt i ops.size&&FQ N (oA ops i)&&gT ops ts dn i then some (E.put (oA ops i).dst (.tup []))else none
 |some true=>bif Nat.blt i ops.size&&FQ N (oA ops i)&&gT ops ts dn i&&!mv then
   (match IU P E (oA ops i)with
   |some s=>some (E.put (oA ops i).dst s)
   |none=>bif pC ops dn [i]&&(kp (oA ops i)||ts.contains i)then C4 P N mv E (oA ops i)else none)
  else bif Nat.blt i ops.size&&pC ops dn [i]&&(kp (oA ops i)||ts.contains i)then C4 P N mv E (oA ops i)else none
 |none=>none
def n9 (P:Program) (N:Nat) (ops:Array Oper) (ts:List Nat):List Nat->Nat->List Nat->St->Option St
 |[],_,_,E=>some E
 |i::l,m,dn,E=>match rW P N ops ts (Nat.beq (m %2) 1) dn E i with
  |some E'=>n9 P N ops ts l (m/2) (i::dn) E'
  |none=>none
def aV:List Nat->List Nat->List Nat
 |[],dn=>dn
 |i::l,dn=>aV l (i::dn)
section
variable {ts:List Nat}
theorem KW.st (hs:rW P N ops ts mv dn E i=some E') (h:KW P N ops ts (i::dn) E' Q):KW P N ops ts dn E Q:=by
 unfold rW at hs;split at hs
 ·rename_i hg
  cases hb:(Nat.blt i ops.size&&FQ N (oA ops i)&&gT ops ts dn i)with
  |false=>rw [hb]at hs;cases hs
  |true=>
   rw [hb]at hs;simp only [Af]at hs
   injection hs with hs
   subst hs;exact AAQ i h hg hb
 ·rename_i hg;have one:(Nat.blt i ops.size&&pC ops dn [i]&&(kp (oA ops i)||ts.contains i))=true->C4 P N mv E (oA ops i)=some E'->KW P N ops ts dn E Q:=by
   intro hb hs;simp only [Al]at hb;refine Bs i (Gh hs h ?_) hb.1.2;simp only [P7,hb.1.1,hg,hb.2,HF]
  cases hb:(Nat.blt i ops.size&&FQ N (oA ops i)&&gT ops ts dn i&&!mv)with
  |false=>
   rw [hb]at hs;simp only [Ac]at hs
   cases a:(Nat.blt i ops.size&&pC ops dn [i]&&(kp (oA ops i)||ts.contains i))with
   |false=>rw [a]at hs;cases hs
   |true=>rw [a]at hs;exact one a hs
  |true=>
   rw [hb]at hs;simp only [Af]at hs;simp only [Al]at hb;split at hs
   ·rename_i s b
    injection hs with hs
    subst hs;refine zX i b h ?_;simp only [P7,hb.1.1.1,hb.1.1.2,hb.1.2,hg,HF]
   cases a:(pC ops dn [i]&&(kp (oA ops i)||ts.contains i))with
   |false=>rw [a]at hs;cases hs
   |true=>rw [a]at hs;exact one (by rw [hb.1.1.1,CJ];exact a) hs
 cases hs
end
theorem KW.run {ts:List Nat}:∀{l:List Nat} {m:Nat} {dn:List Nat} {E E':St},n9 P N ops ts l m dn E=some E'->KW P N ops ts (aV l dn) E' Q->KW P N ops ts dn E Q
 |[],m,dn,E,E',h,hw=>by
  simp only [n9]at h
  injection h with h
  subst h;exact hw
 |i::l,m,dn,E,E',h,hw=>by
  simp only [n9]at h;split at h
  ·rename_i E1 h1;exact KW.st h1 (KW.run h hw)
  cases h
theorem AZ {ts:List Nat} (l:List Nat) (m:Nat) (h:KW P N ops ts (aV l dn) ((n9 P N ops ts l m dn E).getD E) Q) (hk:(n9 P N ops ts l m dn E).isSome=true:=by kernel_rfl):KW P N ops ts dn E Q:=KW.run (getD_some hk) h
theorem P1 {ts:List Nat} {b:Bool} (t:Nat) (h:(bif b then tx else ty)=some r) (ht:tx=some r->KW P N ops ts dn (E.rs t true) Q) (hf:ty=some r->KW P N ops ts dn (E.rs t false) Q) (hc:E.slots t=B b:=by kernel_rfl):KW P N ops ts dn E Q:=zW h t ht hf hc
theorem yE {id:Nat} (h:RW P N ops 0 E Q):Wp P N (.region id ops false) E Q:=by
 have:=Wp.region (id:=id) (l:=ops.toList) (P:=P) (N:=N) (E:=E) (Q:=Q) (by simpa [RW]using h);simpa using this
theorem Lt {id:Nat} (hm:P.follows .mixedOrders=true) (h:SW P N ops ops.size 0 E (λE'=>Q .normal E')) (hB:Region.lexB .any ops=true:=by kernel_rfl):Wp P N (.region id ops true) E Q:=by
 have:=Sk (id:=id) (l:=ops.toList) (P:=P) (N:=N) (E:=E) (Q:=Q) hm (by simpa using hB) (by
  have h2:=h;unfold SW at h2;rw [AP (by simp)]at h2
  simpa using h2)
 simpa using this
theorem NY {id:Nat} (n:Nat) (hm:P.follows .mixedOrders=true) (h:SW P N ops n 0 E (λE'=>RW P N ops n E' Q)) (hB:Region.lexTailB .any ops n=true:=by kernel_rfl):Wp P N (.region id ops true) E Q:=by
 have:=kD (id:=id) (l:=ops.toList) (P:=P) (N:=N) (E:=E) (Q:=Q) n hm (by simpa using hB) (by simpa [SW,RW]using h);simpa using this
theorem D9 {id:Nat} (ts:List Nat) (hm:P.follows .mixedOrders=true) (hQ:∀c E,Q (.panic c) E->False) (h:KW P N ops ts [] E Q):Wp P N (.region id ops true) E Q:=
 kE ops.size ts hm hQ (by simpa [KW,y9]using h) rfl
def YN (E:St) (x:Operand) (sz:Nat):Option (List TV):=match E.ref x with
 |some (r,q,j)=>match E.place r q j with
  |some (.sl _ _ s cells)=>bif Nat.beq s sz then some cells else none
  |_=>none
 |none=>none
theorem O9 {x:Operand} {a:List TV} (h:YN E x sz=some a):∃r q j b e,E.ref x=some (r,q,j)/\E.place r q j=some (.sl b e sz a):=by
 unfold YN at h;split at h
 ·rename_i r q j hr;split at h
  ·rename_i b e s cells' hp
   cases hs:Nat.beq s sz with
   |false=>rw [hs]at h;cases h
   |true=>
    rw [hs]at h;simp only [Af]at h
    injection h with h
    have:=Bt hs;subst h this;exact⟨r,q,j,b,e,hr,hp⟩
  cases h
 cases h
def Vt (P:Program) (t:TypeId):TypeId:=match P.underlying t with
 |some (.slice e)=>e
 |_=>0
def TH (P:Program) (t:TypeId) (sz:Nat):Bool:=match P.underlying t with
 |some (.slice e)=>Nat.beq (P.cellsOf e) sz&&Nat.blt 0 sz
 |_=>false
theorem KE {t:TypeId} (h:TH P t sz=true):∃e,P.underlying t=some (.slice e)/\P.cellsOf e=sz/\Nat.blt 0 sz=true:=by
 unfold TH at h;split at h
 ·rename_i e he;rw [Al]at h;exact⟨e,he,Bt h.1,h.2⟩
 cases h
def Hi (E:St) (x:Operand):Root×List Nat×Nat:=(E.ptr? x).getD (.hand,[],0)
def Ke (E:St) (x:Operand):Root×List Nat×Nat:=(E.ref x).getD (.hand,[],0)
def Qa (E:St) (x:Operand):Option (List TV×Nat):=match E.ptr? x with
 |some (r,q,j)=>match(E.root r).bind λcs=>BZ cs q with
  |some row=>some (row,j)
  |none=>none
 |none=>none
theorem PZ {x:Operand} {a:List TV} (h:Qa E x=some (a,j)):E.ptr? x=some ((Hi E x).1,(Hi E x).2.1,j)/\(E.root (Hi E x).1).bind (λcs=>BZ cs (Hi E x).2.1)=some a:=by
 unfold Qa at h;split at h
 ·rename_i r q j' hp;split at h
  ·rename_i row' hr
   injection h with h
   injection h with h1 h2
   subst h1 h2;simp only [Hi,hp,Bw];exact⟨trivial,hr⟩
  cases h
 cases h
theorem nO {r:Root} {x:Operand} {q:List Nat} {a:List TV} (h1:E.ptr? x=some (r,q,j)) (h2:(E.root r).bind (λcs=>BZ cs q)=some a):Qa E x=some (a,j):=by
 unfold Qa;rw [h1];simp only [h2]
def Fk (o:Oper):TypeId×Operand×Operand:=match o.op with
 | .indexAddr t a i=>(t,a,i)
 |_=>(0,.tmp 0,.tmp 0)
def oD (o:Oper):Bool:=match o.op with
 | .indexAddr .. =>true
 |_=>false
theorem bM {o:Oper} (h:oD o=true):o.op= .indexAddr (Fk o).1 (Fk o).2.1 (Fk o).2.2:=by
 unfold oD at h;unfold Fk;split at h
 ·rename_i h1;simp only [h1]
 cases h
def R4 (P:Program) (E:St) (x:Operand):Option Int:=match E.cell1 P 0 x with
 |some (.int _ n)=>some n
 |_=>none
theorem HY {x:Operand} (h:R4 P E x=some n):∃k,E.cell1 P 0 x=some (.int k n):=by
 unfold R4 at h;split at h
 ·rename_i k m hc
  injection h with h
  subst h;exact⟨k,hc⟩
 cases h
def rZ (P:Program) (E:St) (o:Oper) (sz:Nat):Option (List TV×Int):=bif oD o&&TH P (Fk o).1 sz then(match YN E (Fk o).2.1 sz,R4 P E (Fk o).2.2 with
 |some c,some n=>some (c,n)
 |_,_=>none)else none
def fA (E:St) (o:Oper) (m:Nat):SV:= .one (.ptr (Ke E (Fk o).2.1).1 (E.ver (Ke E (Fk o).2.1).1) ((Ke E (Fk o).2.1).2.1++ [(Ke E (Fk o).2.1).2.2]) m)
section
variable {o:Oper} {x:α}
theorem Ja (hf:∀x,(f x).length=sz) (hx:gi l n=some x) (hc:rZ P E o sz=some (AR f l,n):=by kernel_rfl):Bh P E o=some (fA E o (n.toNat*sz+0)):=by
 unfold rZ at hc
 cases hb:(oD o&&TH P (Fk o).1 sz)with
 |false=>rw [hb]at hc;cases hc
 |true=>
  rw [hb]at hc;simp only [Af]at hc;rw [Al]at hb;split at hc
  ·rename_i c n' h1 h2
   injection hc with hc
   injection hc with a b
   subst a b;obtain⟨r,q,j,d,e',h3,h4⟩:=O9 h1;obtain⟨k,h5⟩:=HY h2;obtain⟨e,h6,h7,h8⟩:=KE hb.2;have:=AAt hf r q j hx h4 (bM hb.1) h6 h5 h3 h7 h8;rw [this];simp only [fA,Ke,h3,Bw]
  cases hc
end
section
variable {o:Oper} {x:α}
theorem AAp (hf:∀x,(f x).length=sz) (hx:gi l n=some x) (hf':∀x,(f' x).length=sz') (hx':gi l' n'=some x') (k:Nat) (hi:(oD o&&TH P (Fk o).1 sz&&Nat.blt k sz')=true:=by kernel_rfl) (hn:R4 P E (Fk o).2.2=some n:=by kernel_rfl) (hr:E.ref (Fk o).2.1=some ((Ke E (Fk o).2.1).1,(Ke E (Fk o).2.1).2.1,n'.toNat*sz'+k):=by kernel_rfl) (hp:(E.root (Ke E (Fk o).2.1).1).bind (λcs=>BZ cs (Ke E (Fk o).2.1).2.1)=some (AR f' l'):=by kernel_rfl) {a:Bool} (hc:(f' x')[k]?=some (.sl a e' sz (AR f l)):=by rfl):Bh P E o=some (fA E o (n.toNat*sz+0)):=by
 simp only [Al]at hi;obtain⟨k',h5⟩:=HY hn;obtain⟨e,h6,h7,h8⟩:=KE hi.1.2;have b:E.place (Ke E (Fk o).2.1).1 (Ke E (Fk o).2.1).2.1 (n'.toNat*sz'+k)=some (.sl a e' sz (AR f l)):=by
  obtain⟨cs,h1,h2⟩:=Ar.1 hp;simp only [St.place,h1,Aa,h2];rw [Nj hf' hx' (by simpa [Bn]using hi.2),hc]
 have:=AAt hf _ _ _ hx b (bM hi.1.1) h6 h5 hr h7 h8;have hj:(Ke E (Fk o).2.1).2.2=n'.toNat*sz'+k:=Ca (λz:Option (Root×List Nat×Nat)=>(z.getD (Root.hand,[],0)).2.2) hr;rw [this,fA,hj]
end
section
variable {x:α}
theorem pr2 {a:Operand} {c:List TV} (q0:Nat) (hf':∀x,(f' x).length=sz') (hx':gi l' n'=some x') (k:Nat) (h1:E.ptr? a=some ((Hi E a).1,[q0,n'.toNat*sz'+k],j):=by kernel_rfl) (hc:(E.root (Hi E a).1).bind (λcs=>BZ cs [q0])=some (AR f' l'):=by kernel_rfl) (b:BZ (f' x') [k]=some c:=by kernel_rfl) (hk:Nat.blt k sz'=true:=by kernel_rfl):Qa E a=some (c,j):=by
 refine nO h1 ?_;obtain⟨cs,h2,h3⟩:=Ar.1 hc;have h4:=mU hf' hx' (q:=[]) (show k<sz' by simpa [Bn]using hk);rw [h2];simp only [Aa];simp only [BZ]at h3;split at h3
 ·rename_i o' e' s' d e
  injection h3 with h3
  subst h3;simp only [BZ,e];simp only [BZ]at h4 b;rw [h4];exact b
 cases h3
end
def Qw (o:Oper):TypeId×Operand×Nat:=match o.op with
 | .fieldAddr t a i=>(t,a,i)
 |_=>(0,.tmp 0,0)
def zD (o:Oper):Bool:=match o.op with
 | .fieldAddr .. =>true
 |_=>false
theorem vV {o:Oper} (h:zD o=true):o.op= .fieldAddr (Qw o).1 (Qw o).2.1 (Qw o).2.2:=by
 unfold zD at h;unfold Qw;split at h
 ·rename_i h1;simp only [h1]
 cases h
def xY (P:Program) (o:Oper):Option Nat:=match P.underlying (Qw o).1 with
 |some (.struct fs)=>match fs[(Qw o).2.2]? with
  |some fd=>bif Nat.beq (P.cellsOf fd.type) 0 then none else some fd.offset
  |none=>none
 |_=>none
def AAF (E:St) (o:Oper) (m:Nat):SV:= .one (.ptr (Hi E (Qw o).2.1).1 (E.stamp (Hi E (Qw o).2.1).1 (Hi E (Qw o).2.1).2.1) (Hi E (Qw o).2.1).2.1 m)
section
variable {o:Oper} {x:α}
theorem DI (hf:∀x,(f x).length=sz) (hx:gi l n=some x) (k m:Nat) (hr:Qa E (Qw o).2.1=some (AR f l,n.toNat*sz+k):=by kernel_rfl) (ho:(zD o&&Nat.blt m sz)=true:=by kernel_rfl) (a:xY P o=some (m-k):=by kernel_rfl) (b:Nat.ble k m=true:=by kernel_rfl):Bh P E o=some (AAF E o (n.toNat*sz+m)):=by
 rw [Al]at ho;obtain⟨h1,h2⟩:=PZ hr;have d:k<=m:=by simpa [Oa]using b
 unfold xY at a;split at a
 ·rename_i fs hs;split at a
  ·rename_i fd c
   cases hb:Nat.beq (P.cellsOf fd.type) 0 with
   |true=>rw [hb]at a;cases a
   |false=>
    rw [hb]at a;simp only [Ac]at a
    injection a with a
    have hm:k+fd.offset=m:=by omega
    exact ABh hf _ _ k hx h2 (vV ho.1) hs h1 c hb hm (by rw [hm];exact ho.2)
  cases a
 cases a
end
def Nd (o:Oper):TypeId×Operand:=match o.op with
 | .load t a=>(t,a)
 |_=>(0,.tmp 0)
def vU (o:Oper):Bool:=match o.op with
 | .load .. =>true
 |_=>false
theorem mL {o:Oper} (h:vU o=true):o.op= .load (Nd o).1 (Nd o).2:=by
 unfold vU at h;unfold Nd;split at h
 ·rename_i h1;simp only [h1]
 cases h
def xV (P:Program) (o:Oper) (k sz:Nat):Bool:=vU o&&!Ys P (Nd o).1&&Nat.beq (P.cellsOf (Nd o).1) 1&&(P.underlying (Nd o).1).isSome&&Nat.blt k sz
def xW (P:Program) (o:Oper) (k m sz:Nat):Bool:=vU o&&Ys P (Nd o).1&&Nat.beq (P.cellsOf (Nd o).1) m&&Nat.ble (k+m) sz
def ldC (E:St) (o:Oper) (j:Nat) (u:TV):SV:= .one (yM E (Hi E (Nd o).2).1 (Hi E (Nd o).2).2.1 j u)
def ldA (E:St) (o:Oper) (j:Nat) (us:List TV):SV:= .agg (SC E (Hi E (Nd o).2).1 (Hi E (Nd o).2).2.1 j us)
section
variable {o:Oper} {x:α}
theorem CD (hf:∀x,(f x).length=sz) (hx:gi l n=some x) (k:Nat) (hr:Qa E (Nd o).2=some (AR f l,n.toNat*sz+k):=by kernel_rfl) (ho:xV P o k sz=true:=by kernel_rfl):Bh P E o=some (ldC E o (n.toNat*sz+k) (((f x)[k]?).getD .junk)):=by
 simp only [xV,Al,C8]at ho;obtain⟨⟨⟨⟨h3,h4⟩,h5⟩,h6⟩,h7⟩:=ho;obtain⟨h1,h2⟩:=PZ hr;have hk:k<(f x).length:=by rw [hf];simpa [Bn]using h7
 refine ABg hf _ _ k _ hx h2 (mL h3) h1 h4 (Bt h5) h6 h7 ?_;rw [Ab hk];rfl
end
section
variable {o:Oper} {x:α}
theorem LO (hf:∀x,(f x).length=sz) (hx:gi l n=some x) (k m:Nat) (hr:Qa E (Nd o).2=some (AR f l,n.toNat*sz+k):=by kernel_rfl) (ho:xW P o k m sz=true:=by kernel_rfl):Bh P E o=some (ldA E o (n.toNat*sz+k) (((f x).drop k).take m)):=by
 simp only [xW,Al]at ho;obtain⟨⟨⟨h3,h4⟩,h5⟩,h6⟩:=ho;obtain⟨h1,h2⟩:=PZ hr;exact ABf hf _ _ k m hx h2 (mL h3) h1 h4 (Bt h5) h6
end
section
variable {x:α}
def NJ (o:Oper):TypeId×Operand:=match o.op with
 | .call c=>match c.callee,c.args.toList,c.argTypes.toList with
  | .builtin .len,[x],[t]=>(t,x)
  |_,_,_=>(0,.tmp 0)
 |_=>(0,.tmp 0)
end
section
variable {x:α}
def vT (o:Oper):Bool:=match o.op with
 | .call c=>match c.callee,c.args.toList,c.argTypes.toList with
  | .builtin .len,[x],[t]=>true
  |_,_,_=>false
 |_=>false
end
theorem mK {o:Oper} (h:vT o=true):o.op= .call {callee:= .builtin .len,args:= #[(NJ o).2],argTypes:= #[(NJ o).1]}:=by
 unfold vT at h;unfold NJ;split at h
 ·rename_i c hc;split at h
  ·rename_i x t h1 h2 h3;obtain⟨callee,args,types⟩:=c;simp only at h1 h2 h3;subst h1;obtain rfl:args= #[x]:=by cases args;simp_all
   obtain rfl:types= #[t]:=by cases types;simp_all
   rw [hc]
  cases h
 cases h
section
variable {o:Oper} {x:α}
theorem CL (hf:∀x,(f x).length=sz) (l:List α) (hr:YN E (NJ o).2 sz=some (AR f l):=by kernel_rfl) (ho:(vT o&&TH P (NJ o).1 sz)=true:=by kernel_rfl):Bh P E o=some (.one (.int .i64 (ln l))):=by
 rw [Al]at ho;obtain⟨r,q,j,a,e',h3,h4⟩:=O9 hr;obtain⟨e,h6,h7,h8⟩:=KE ho.2;exact AAs hf l (mK ho.1) h6 h3 h4 h8
end
section
variable {o:Oper} {x:α}
theorem ABb (hf:∀x,(f x).length=sz) (l:List α) (hf':∀x,(f' x).length=sz') (hx':gi l' n'=some x') (k:Nat) (ho:(vT o&&TH P (NJ o).1 sz&&Nat.blt k sz')=true:=by kernel_rfl) (hr:E.ref (NJ o).2=some ((Ke E (NJ o).2).1,(Ke E (NJ o).2).2.1,n'.toNat*sz'+k):=by kernel_rfl) (hp:(E.root (Ke E (NJ o).2).1).bind (λcs=>BZ cs (Ke E (NJ o).2).2.1)=some (AR f' l'):=by kernel_rfl) {a:Bool} (hc:(f' x')[k]?=some (.sl a e' sz (AR f l)):=by rfl):Bh P E o=some (.one (.int .i64 (ln l))):=by
 simp only [Al]at ho;obtain⟨e,h6,h7,h8⟩:=KE ho.1.2;have b:E.place (Ke E (NJ o).2).1 (Ke E (NJ o).2).2.1 (n'.toNat*sz'+k)=some (.sl a e' sz (AR f l)):=by
  obtain⟨cs,h1,h2⟩:=Ar.1 hp;simp only [St.place,h1,Aa,h2];rw [Nj hf' hx' (by simpa [Bn]using ho.2),hc]
 exact AAs hf l (mK ho.1.1) h6 hr b h8
end
def Uz (P:Program) (E:St) (t:TypeId) (x:Operand):Option ByteArray:=match E.cell1 P t x with
 |some (.str s)=>some s
 |_=>none
theorem Kj {s:ByteArray} {t:TypeId} {x:Operand} (h:Uz P E t x=some s):E.cell1 P t x=some (.str s):=by
 unfold Uz at h;split at h
 ·rename_i u hu
  injection h with h
  rw [hu,h]
 cases h
def Zo (P:Program) (t:TypeId):Bool:=match P.underlying t with
 |some .string=>true
 |_=>false
theorem Th {t:TypeId} (h:Zo P t=true):P.underlying t=some .string:=by
 unfold Zo at h;split at h
 ·assumption
 cases h
def wX (P:Program) (E:St) (o:Oper):Option (ByteArray×Int):=match o.op with
 | .index t a i=>match Zo P t,Uz P E t a,R4 P E i with
  |true,some s,some n=>some (s,n)
  |_,_,_=>none
 |_=>none
theorem Ya {o:Oper} {s:ByteArray} {b:Int} (h:sx s n=some b) (hc:wX P E o=some (s,n):=by kernel_rfl):Bh P E o=some (.one (.int .u8 b)):=by
 unfold wX at hc;split at hc
 ·rename_i t a i ho;split at hc
  ·rename_i s' n' h1 h2 h3
   injection hc with hc
   injection hc with c d
   subst c d;obtain⟨k,h3⟩:=HY h3;exact ABe h ho (Th h1) (Kj h2) h3
  cases hc
 cases hc
section
variable {x:α}
def Zw (P:Program) (E:St) (d:Int):Option Operand->Option Int
 |none=>some d
 |some x=>R4 P E x
end
def pP (P:Program) (E:St) (o:Oper):Option (ByteArray×Int×Int):=match o.op with
 | .slice t a lo hi none=>match Zo P t,Uz P E t a with
  |true,some s=>match Zw P E 0 lo,Zw P E (s.size:Nat) hi with
   |some l,some h=>some (s,l,h)
   |_,_=>none
  |_,_=>none
 |_=>none
section
variable {o:Oper}
theorem Pa {d:Int} {x:Option Operand} (h:Zw P E d x=some n):∃k,(match x with|some o=>E.cell1 P 0 o|none=>some (.int .i64 d))=some (.int k n):=by
 cases x with
 |none=>
  simp only [Zw]at h
  injection h with h
  exact⟨.i64,by rw [h]⟩
 |some x=>exact HY h
end
theorem Qb {o:Oper} {s u:ByteArray} {l h:Int} (hx:sub s l h=some u) (hc:pP P E o=some (s,l,h):=by kernel_rfl):Bh P E o=some (.one (.str u)):=by
 unfold pP at hc;split at hc
 ·rename_i t a lo hi ho;split at hc
  ·rename_i s' h1 h2;split at hc
   ·rename_i l' h' h3 h4
    injection hc with hc
    injection hc with c b
    injection b with b d
    subst c b d;obtain⟨k1,h3⟩:=Pa h3;obtain⟨k2,h4⟩:=Pa h4;exact AAq hx ho (Th h1) (Kj h2) h3 h4
   cases hc
  cases hc
 cases hc
section
variable {x:α}
def sU (P:Program) (E:St) (o:Oper):Option (ByteArray×ByteArray):=match o.op with
 | .binOp .add t x y _=>match Uz P E t x,Uz P E t y with
  |some a,some b=>some (a,b)
  |_,_=>none
 |_=>none
end
theorem OF {o:Oper} {a b u:ByteArray} (hx:TB a b=some u) (hc:sU P E o=some (a,b):=by kernel_rfl):Bh P E o=some (.one (.str u)):=by
 unfold sU at hc;split at hc
 ·rename_i t x y t' ho;split at hc
  ·rename_i a' b' h1 h2
   injection hc with hc
   injection hc with c d
   subst c d;exact AAv hx ho (Kj h1) (Kj h2)
  cases hc
 cases hc
section
variable {x:α}
def Px (o:Oper):TypeId×TypeId×Operand:=match o.op with
 | .convert s d x=>(s,d,x)
 |_=>(0,0,.tmp 0)
end
section
variable {x:α}
def AAG (P:Program) (o:Oper):Bool:=match o.op with
 | .convert s d x=>(match P.underlying s,P.underlying d with
  |some (.slice e),some .string=>(match P.underlying e with
   |some (.int .u8)=>true
   |_=>false)
  |_,_=>false)
 |_=>false
end
theorem u0 {o:Oper} {f:Int->List TV} (hf:∀n,f n=[.int .u8 n]) (l:List Int) (hr:YN E (Px o).2.2 1=some (AR f l):=by kernel_rfl) (ho:AAG P o=true:=by kernel_rfl):Bh P E o=some (.one (.str (HC l))):=by
 obtain⟨r,q,j,b,e',h3,h4⟩:=O9 hr;unfold AAG at ho;split at ho
 ·rename_i s d x a;split at ho
  ·rename_i e hs hd;split at ho
   ·rename_i he;simp only [Px,a]at h3;exact ABj hf l a hs hd he h3 h4
   cases ho
  cases ho
 cases ho
section
variable {x:α}
def pW (P:Program) (E:St) (o:Oper) (k:IntKind):Option (Int×Int):=match o.op with
 | .binOp .shl t x y _=>match E.cell1 P t x,E.cell1 P t y with
  |some (.int k' a),some (.int _ b)=>bif decide (k'=k)then some (a,b)else none
  |_,_=>none
 |_=>none
end
theorem ABa {o:Oper} {a b v:Int} (hx:shl k a b=some v) (hc:pW P E o k=some (a,b):=by kernel_rfl):Bh P E o=some (.one (.int k v)):=by
 unfold pW at hc;split at hc
 ·rename_i t x y t' ho;split at hc
  ·rename_i k' a' k2 b' h1 h2
   cases hk:decide (k'=k)with
   |false=>rw [hk]at hc;cases hc
   |true=>
    rw [hk]at hc;simp only [Af]at hc
    injection hc with hc
    injection hc with hc1 hc2
    have:=J9 hk;subst hc1 hc2 this;exact AAr hx ho h1 h2
  cases hc
 cases hc
section
variable {x:α}
def NU (o:Oper):TypeId×Operand×Option Operand×Option Operand:=match o.op with
 | .slice t x lo hi none=>(t,x,lo,hi)
 |_=>(0,.tmp 0,none,none)
end
section
variable {x:α}
def vW (o:Oper):Bool:=match o.op with
 | .slice t x lo hi none=>true
 |_=>false
end
theorem mM {o:Oper} (h:vW o=true):o.op= .slice (NU o).1 (NU o).2.1 (NU o).2.2.1 (NU o).2.2.2 none:=by
 unfold vW at h;unfold NU;split at h
 ·rename_i h1;simp only [h1]
 cases h
def lK (E:St) (x:Operand) (sz:Nat):Option (Nat×List TV):=match E.ref x with
 |some (r,q,j)=>match E.place r q j with
  |some (.sl false e s cells)=>bif Nat.beq s sz then some (e,cells)else none
  |_=>none
 |none=>none
theorem WF {x:Operand} {a:List TV} {e:Nat} (h:lK E x sz=some (e,a)):∃r q j,E.ref x=some (r,q,j)/\E.place r q j=some (.sl false e sz a):=by
 unfold lK at h;split at h
 ·rename_i r q j hr;split at h
  ·rename_i e' s cells' hp
   cases hs:Nat.beq s sz with
   |false=>rw [hs]at h;cases h
   |true=>
    rw [hs]at h;simp only [Af]at h
    injection h with h
    injection h with h1 h2
    have:=Bt hs;subst h1 h2 this;exact⟨r,q,j,hr,hp⟩
  cases h
 cases h
section
variable {o:Oper} {x:α}
theorem pdr (hf:∀x,(f x).length=sz) {v:List α} {a b:Int} (e:Nat) (hx:dr l a b=some v) (hr:lK E (NU o).2.1 sz=some (e,AR f l):=by kernel_rfl) (ha:Zw P E 0 (NU o).2.2.1=some a:=by kernel_rfl) (hb:((NU o).2.2.2.bind (R4 P E))=some b:=by kernel_rfl) (ho:(vW o&&TH P (NU o).1 sz)=true:=by kernel_rfl):Bh P E o=some (.one (.sl false e sz (AR f v))):=by
 rw [Al]at ho;obtain⟨r,q,j,h1,h2⟩:=WF hr;obtain⟨e1,h6,h7,h8⟩:=KE ho.2;obtain⟨k1,h3⟩:=Pa ha;obtain⟨oh,h4,h5⟩:=Ar.1 hb;obtain⟨k2,h5⟩:=HY h5;have:=mM ho.1;rw [h4]at this;exact ABi hf hx this h6 h1 h2 h3 h5 h7 h8
end
section
variable {o:Oper} {x:α}
theorem yV (hf:∀x,(f x).length=sz) {v:List α} {a:Int} (e:Nat) (hx:dr l a (ln l)=some v) (hr:lK E (NU o).2.1 sz=some (e,AR f l):=by kernel_rfl) (ha:Zw P E 0 (NU o).2.2.1=some a:=by kernel_rfl) (ho:(vW o&&TH P (NU o).1 sz&&(NU o).2.2.2.isNone)=true:=by kernel_rfl):Bh P E o=some (.one (.sl false e sz (AR f v))):=by
 simp only [Al]at ho;obtain⟨r,q,j,h1,h2⟩:=WF hr;obtain⟨e1,h6,h7,h8⟩:=KE ho.1.2;obtain⟨k1,h3⟩:=Pa ha;have:=mM ho.1.1;rw [Option.isNone_iff_eq_none.1 ho.2]at this;exact AAu hf hx this h6 h1 h2 h3 h7 h8
end
def AAi (P:Program) (E:St) (o:Oper) (m:Nat):Bool:=match P.underlying (Fk o).1 with
 |some (.array len e)=>oD o&&Nat.beq (P.cellsOf e) 1&&Nat.blt m len&&(match E.ptr? (Fk o).2.1 with
  |some (r,q,j)=>(E.place r q (j+m)).isSome
  |none=>false)
 |_=>false
def wU (E:St) (o:Oper) (m:Nat):SV:= .one (.ptr (Hi E (Fk o).2.1).1 (E.stamp (Hi E (Fk o).2.1).1 (Hi E (Fk o).2.1).2.1) (Hi E (Fk o).2.1).2.1 ((Hi E (Fk o).2.1).2.2+m))
theorem pxa {o:Oper} (m:Nat) (hn:n=(m:Int)) (hi:R4 P E (Fk o).2.2=some n:=by kernel_rfl) (ho:AAi P E o m=true:=by kernel_rfl):Bh P E o=some (wU E o m):=by
 unfold AAi at ho;split at ho
 ·rename_i len e ht;simp only [Al]at ho;obtain⟨⟨⟨h1,h2⟩,h3⟩,h4⟩:=ho;obtain⟨k,hi⟩:=HY hi;split at h4
  ·rename_i r q j hp;have:=ABd r q j hn (bM h1) ht hi hp (Bt h2) h3 h4;rw [this];simp only [wU,Hi,hp,Bw]
  cases h4
 cases ho
section
variable {x:α}
def E5 (o:Oper):TypeId×TypeId×Operand×Operand:=match o.op with
 | .call c=>match c.callee,c.args.toList,c.argTypes.toList with
  | .builtin .append,[s,x],[t,t']=>(t,t',s,x)
  |_,_,_=>(0,0,.tmp 0,.tmp 0)
 |_=>(0,0,.tmp 0,.tmp 0)
end
section
variable {x:α}
def r6 (o:Oper):Bool:=match o.op with
 | .call c=>match c.callee,c.args.toList,c.argTypes.toList with
  | .builtin .append,[s,x],[t,t']=>true
  |_,_,_=>false
 |_=>false
end
theorem bN {o:Oper} (h:r6 o=true):o.op= .call {callee:= .builtin .append,args:= #[(E5 o).2.2.1,(E5 o).2.2.2],argTypes:= #[(E5 o).1,(E5 o).2.1]}:=by
 unfold r6 at h;unfold E5;split at h
 ·rename_i c hc;split at h
  ·rename_i s x t t' h1 h2 h3;obtain⟨callee,args,types⟩:=c;simp only at h1 h2 h3;subst h1;obtain rfl:args= #[s,x]:=by cases args;simp_all
   obtain rfl:types= #[t,t']:=by cases types;simp_all
   rw [hc]
  cases h
 cases h
def wK (P:Program) (N:Nat) (o:Oper) (sz by_:Nat):Bool:=r6 o&&Nat.beq (E5 o).1 (E5 o).2.1&&TH P (E5 o).1 sz&&(KC P (Vt P (E5 o).1)).isSome&&Nat.beq (P.bytesOf (Vt P (E5 o).1)) by_&&Nat.blt 0 by_&&FQ N o
def RB (P:Program) (E:St) (o:Oper) (sz:Nat):Option (List TV×St):=match E.cell1 P (E5 o).1 (E5 o).2.2.1 with
 |some sv=>match DF E sv with
  |some (.sl true e s cells,E1)=>bif Nat.beq e (Vt P (E5 o).1)&&Nat.beq s sz then some (cells,E1)else none
  |_=>none
 |none=>none
def wL (P:Program) (E:St) (o:Oper) (sz:Nat):St:=((RB P E o sz).map Prod.snd).getD E
def apV (P:Program) (o:Oper) (sz:Nat) (a:List TV):SV:= .one (.sl true (Vt P (E5 o).1) sz a)
def tG (P:Program) (E1:St) (o:Oper) (sz:Nat):Option (Nat×List TV×St):=match E1.ref (E5 o).2.2.2 with
 |some (r,q,j)=>match E1.place r q j with
  |some (.sl _ _ s cells)=>bif Nat.beq s sz then(match ER E1 (SC E1 r (q++ [j]) 0 cells)with
   |some (news,E2)=>some (cells.length,news,E2)
   |none=>none)else none
  |_=>none
 |none=>none
theorem VP {t:TypeId} {e:TypeId} (h:P.underlying t=some (.slice e)):Vt P t=e:=by unfold Vt;rw [h]
section
variable {o:Oper} {x:α}
theorem AAE {E2:St} {r:Root} {e2:Nat} {cells2:List TV} (hf:∀x,(f x).length=sz) (l m:List α) (h:ap by_ l m=some u) (hd:RB P E o sz=some (AR f l,E1)) {q:List Nat} {g:Bool} (hr:E1.ref (E5 o).2.2.2=some (r,q,j)) (hp:E1.place r q j=some (.sl g e2 sz cells2)) (hn:ER E1 (SC E1 r (q++ [j]) 0 cells2)=some (AR f m,E2)) (hl:cells2.length=m.length*sz) (ho:wK P N o sz by_=true):C4 P N false E o=some (E2.put o.dst (apV P o sz (AR f u))):=by
 obtain⟨rfl,i⟩:=wJ h;simp only [wK,Al]at ho;obtain⟨⟨⟨⟨⟨⟨a1,a2⟩,a3⟩,a4⟩,a5⟩,a6⟩,a7⟩:=ho;obtain⟨d,a8,_,a9⟩:=E4 a7;obtain⟨e,b1,b2,b3⟩:=KE a3;have a:=VP b1;rw [a]at a4 a5;have h0':0<sz:=by simpa [Bn]using b3
 have hb0':0<by_:=by simpa [Bn]using a6
 have hb:=Bt a5;have k:=Bt a2;unfold RB at hd;rw [a]at hd;split at hd
 ·rename_i sv hs;split at hd
  ·rename_i e1 s n E1' h1
   cases hc:(Nat.beq e1 e&&Nat.beq s sz)with
   |false=>rw [hc]at hd;cases hd
   |true=>
    rw [hc]at hd;simp only [Af]at hd
    injection hd with hd
    injection hd with hd1 hd2
    rw [Al]at hc;have c1:=Bt hc.1;have c2:=Bt hc.2;subst hd1 hd2 c1 c2;have b:(AR f l).length/s=l.length:=by rw [EK hf];exact EU _ h0'
    have c:cells2.length/s=m.length:=by rw [hl];exact EU _ h0'
    have p:l.length+m.length<=(l.length+m.length)*by_:=Nat.le_mul_of_pos_right _ hb0';unfold C4;rw [a8];simp only [Au a9,bN a1,Au k,Me,b1,hs,h1,hr,hp,hn];rw [Au ⟨trivial,b2.symm,trivial,h0',a4,by rw [b,c];omega,by rw [b,c,hb];exact i⟩,Qy,apV,a]
  cases hd
 cases hd
end
theorem Sj {o:Oper} {a:List TV} (h:(RB P E o sz).map Prod.fst=some a):RB P E o sz=some (a,wL P E o sz):=by
 unfold wL
 cases hx:RB P E o sz with
 |none=>rw [hx]at h;cases h
 |some z=>
  rw [hx]at h;simp only [B5]at h
  injection h with h
  subst h;rfl
section
variable {o:Oper} {x:α}
theorem CE {m:List α} (hf:∀x,(f x).length=sz) (hg:∀x,IN (f x)=true) (l:List α) (h:ap by_ l m=some u) (hd:(RB P E o sz).map Prod.fst=some (AR f l):=by kernel_rfl) (hm:YN (wL P E o sz) (E5 o).2.2.2 sz=some (AR f m):=by kernel_rfl) (ho:wK P N o sz by_=true:=by kernel_rfl):
  C4 P N false E o=some ((wL P E o sz).put o.dst (apV P o sz (AR f u))):=by
 obtain⟨r,q,j,a,e,h1,h2⟩:=O9 hm;exact AAE hf l m h (Sj hd) h1 h2 (by rw [Ww _ (RU hg m),Pv (RU hg m)]) (EK hf m) ho
end
section
variable {o:Oper} {x:α}
theorem Uf (hf:∀x,(f x).length=sz) (l m:List α) (h:ap by_ l m=some u) (hd:(RB P E o sz).map Prod.fst=some (AR f l):=by kernel_rfl) (hm:(tG P (wL P E o sz) o sz).map (λz=>(z.1,z.2.1))=some (m.length*sz,AR f m):=by kernel_rfl) (ho:wK P N o sz by_=true:=by kernel_rfl):
  C4 P N false E o=some ((((tG P (wL P E o sz) o sz).map (λz=>z.2.2)).getD E).put o.dst (apV P o sz (AR f u))):=by
 have hd':=Sj hd;generalize hE:wL P E o sz=E1 at hm hd'⊢;unfold tG at hm⊢
 cases hr:E1.ref (E5 o).2.2.2 with
 |none=>simp only [hr]at hm;cases hm
 |some z=>
  obtain⟨r,q,j⟩:=z;simp only [hr]at hm⊢
  cases hp:E1.place r q j with
  |none=>simp only [hp]at hm;cases hm
  |some t=>
   simp only [hp]at hm⊢
   cases t with
   |sl own e2 s cells=>
    simp only at hm⊢
    cases hb:Nat.beq s sz with
    |false=>rw [hb]at hm;cases hm
    |true=>
     rw [hb]at hm;simp only [Af]at hm⊢;have:=Bt hb;subst this
     cases hn:ER E1 (SC E1 r (q++ [j]) 0 cells)with
     |none=>simp only [hn]at hm;cases hm
     |some y=>
      obtain⟨news,E2⟩:=y;simp only [hn,B5]at hm⊢
      injection hm with hm
      injection hm with hm1 hm2
      subst hm2;exact AAE hf l m h hd' hr hp hn hm1 ho
   |_=>simp only at hm;cases hm
end
def yD (P:Program) (N:Nat) (o:Oper):Bool:=r6 o&&TH P (E5 o).1 1&&Zo P (E5 o).2.1&&!Nat.beq (E5 o).1 (E5 o).2.1&&vP P (Vt P (E5 o).1)&&FQ N o
section
variable {o:Oper}
theorem jT {f:Int->List TV} {b:ByteArray} {u:List Int} (hf:∀n,f n=[.int .u8 n]) (l:List Int) (h:aps l b=some u) (hd:(RB P E o 1).map Prod.fst=some (AR f l):=by kernel_rfl) (hx:Uz P E (E5 o).2.1 (E5 o).2.2.2=some b:=by kernel_rfl) (ho:yD P N o=true:=by kernel_rfl):
  C4 P N false E o=some ((wL P E o 1).put o.dst (apV P o 1 (AR f u))):=by
 have hd':=Sj hd;simp only [yD,Al,C8]at ho;obtain⟨⟨⟨⟨⟨a1,a2⟩,a3⟩,a4⟩,a5⟩,a6⟩:=ho;obtain⟨d,a8,_,a9⟩:=E4 a6;obtain⟨e,b1,b2,b3⟩:=KE a2;have a:=VP b1;have c:=Th a3;have g:=Kj hx;have hne':(E5 o).1≠(E5 o).2.1:=by intro e;rw [e]at a4;simp at a4
 rw [a]at a5;unfold aps at h;split at h
 case isFalse=>cases h
 rename_i hb
 injection h with h
 subst h;have hl:(AR f l).length=l.length:=by rw [EK (sz:=1) (λn=>by rw [hf];rfl),So]
 generalize hE:wL P E o 1=E1 at hd'⊢;unfold RB at hd';rw [a]at hd';split at hd'
 ·rename_i sv hs;split at hd'
  ·rename_i e1 s i E1' h1
   cases hc:(Nat.beq e1 e&&Nat.beq s 1)with
   |false=>rw [hc]at hd';cases hd'
   |true=>
    rw [hc]at hd';simp only [Af]at hd'
    injection hd' with hd'
    injection hd' with hd1 hd2
    rw [Al]at hc;have c1:=Bt hc.1;have c2:=Bt hc.2;subst hd1 hd2 c1 c2;unfold C4;rw [a8];simp only [Au a9,bN a1,Ax hne',Pd,b1,c,hs,g,h1];rw [Au ⟨trivial,trivial,a5,by rw [hl];exact hb⟩,Uy hf,Qy,apV,a]
  cases hd'
 cases hd'
end
def R2 (o:Oper):TypeId×Operand×Operand:=match o.op with
 | .makeSlice t l c=>(t,l,c)
 |_=>(0,.tmp 0,.tmp 0)
def zC (o:Oper):Bool:=match o.op with
 | .makeSlice .. =>true
 |_=>false
theorem vS {o:Oper} (h:zC o=true):o.op= .makeSlice (R2 o).1 (R2 o).2.1 (R2 o).2.2:=by
 unfold zC at h;unfold R2;split at h
 ·rename_i h1;simp only [h1]
 cases h
def AAy (P:Program) (N:Nat) (o:Oper) (sz by_:Nat):Bool:=zC o&&TH P (R2 o).1 sz&&Nat.beq (P.bytesOf (Vt P (R2 o).1)) by_&&FQ N o
section
variable {o:Oper} {x:α}
theorem wE (hf:∀x,(f x).length=sz) (z:α) (h:mk by_ z n=some u) (hl:R4 P E (R2 o).2.1=some n:=by kernel_rfl) (hc:R4 P E (R2 o).2.2=some n:=by kernel_rfl) (hz:KC P (Vt P (R2 o).1)=some (f z):=by kernel_rfl) (ho:AAy P N o sz by_=true:=by kernel_rfl):
  C4 P N false E o=some (E.put o.dst (.one (.sl true (Vt P (R2 o).1) sz (AR f u)))):=by
 simp only [AAy,Al]at ho;obtain⟨⟨⟨a1,a2⟩,a3⟩,a4⟩:=ho;obtain⟨d,a5,a6,_⟩:=E4 a4;obtain⟨e,b1,b2,b3⟩:=KE a2;have a:=VP b1;rw [a]at hz a3⊢;obtain⟨k1,hl⟩:=HY hl;obtain⟨k2,hc⟩:=HY hc;rw [a5];exact AA8 z h (vS a1) a5 a6 b1 hl hc hz rfl (Bt a3) b2
end
def zB (o:Oper):Bool:=match o.op with
 | .convert .. =>true
 |_=>false
theorem vR {o:Oper} (h:zB o=true):o.op= .convert (Px o).1 (Px o).2.1 (Px o).2.2:=by
 unfold zB at h;unfold Px;split at h
 ·rename_i h1;simp only [h1]
 cases h
def AAl (P:Program) (N:Nat) (o:Oper):Bool:=zB o&&Zo P (Px o).1&&TH P (Px o).2.1 1&&fB P (Vt P (Px o).2.1)&&FQ N o
theorem fsb {o:Oper} {f:Int->List TV} {b:ByteArray} (hf:∀n,f n=[.int .u8 n]) (hx:Uz P E (Px o).1 (Px o).2.2=some b) (ho:AAl P N o=true:=by kernel_rfl):C4 P N false E o=some (E.put o.dst (.one (.sl false (Vt P (Px o).2.1) 1 (AR f (iD b))))):=by
 simp only [AAl,Al]at ho;obtain⟨⟨⟨⟨a1,a2⟩,a3⟩,a4⟩,a5⟩:=ho;obtain⟨d,a6,a7,_⟩:=E4 a5;obtain⟨e,b1,b2,b3⟩:=KE a3;have a:=VP b1;rw [a]at a4⊢;rw [a6];exact AA7 hf (vR a1) a6 a7 (Th a2) b1 (Kj hx) a4
section
variable {x:α}
def PH (o:Oper):TypeId×Operand×Operand:=match o.op with
 | .store t a x=>(t,a,x)
 |_=>(0,.tmp 0,.tmp 0)
end
def zA (o:Oper):Bool:=match o.op with
 | .store .. =>o.dst.isNone
 |_=>false
theorem vQ {o:Oper} (h:zA o=true):o.op= .store (PH o).1 (PH o).2.1 (PH o).2.2/\o.dst=none:=by
 unfold zA at h;unfold PH;split at h
 ·rename_i h1;simp only [h1];exact⟨trivial,Option.isNone_iff_eq_none.1 h⟩
 cases h
def TG (P:Program) (E:St) (o:Oper):Option (List TV×St):=match E.val P (PH o).1 (PH o).2.2 with
 |some s=>Lx E s
 |none=>none
def pS (P:Program) (E:St) (o:Oper):List TV:=((TG P E o).map Prod.fst).getD []
def hO (P:Program) (E:St) (o:Oper):St:=((TG P E o).map Prod.snd).getD E
def tX (P:Program) (E:St) (o:Oper):Root×List Nat×Nat:=Hi (hO P E o) (PH o).2.1
def nB (P:Program) (E:St) (o:Oper) (k sz:Nat):Bool:=zA o&&(TG P E o).isSome&&Nat.beq (pS P E o).length (P.cellsOf (PH o).1)&&Nat.blt 0 (pS P E o).length&&Nat.ble (k+(pS P E o).length) sz
section
variable {o:Oper} {x:α}
theorem AAA {r:Root} (hf:∀x,(f x).length=sz) (hx:gi l n=some x) (k:Nat) {c:Nat} {q:List Nat} {cs cs':List TV} (ho:nB P E o k sz=true) (hp:(hO P E o).ptr? (PH o).2.1=some (r,c::q,n.toNat*sz+k)) (hr:(hO P E o).root r=some cs) (A:At cs (c::q) (AR f l) (λa=>setRow a (n.toNat*sz+k) (pS P E o)) cs'):C4 P N false E o=some (((hO P E o).setRoot r cs').bump r):=by
 simp only [nB,Al]at ho;obtain⟨⟨⟨⟨a1,a2⟩,a3⟩,a4⟩,a5⟩:=ho;obtain⟨b1,b2⟩:=vQ a1;have ht:TG P E o=some (pS P E o,hO P E o):=by
  unfold pS hO
  cases hh:TG P E o with
  |none=>rw [hh]at a2;cases a2
  |some z=>rfl
 generalize hX:pS P E o=xs at*;generalize hE:hO P E o=E1 at*;unfold TG at ht;split at ht
 ·rename_i s hs;have h0':0<xs.length:=by simpa [Bn]using a4
  simp only [C4,b2,b1,Tu,hs,ht,hp,hr,A.c];rw [Au ⟨A.o,Bt a3,h0',zF hf hx a5⟩,Ax (by simp),A.u]
 cases ht
end
section
variable {o:Oper}
def uV (E:St) (r:Root) (c:Nat) (a:List TV):List TV:=match E.root r with
 |some cs=>match cs[c]? with
  |some (.sl o e s _)=>cs.set c (.sl o e s a)
  |_=>cs
 |none=>[]
end
def Qe (E:St) (r:Root) (c:Nat):Option (List TV):=match E.root r with
 |some cs=>match cs[c]? with
  |some (.sl true e s row)=>some row
  |_=>none
 |none=>none
theorem Qd {r:Root} {c:Nat} {a:List TV} (h:Qe E r c=some a):∃cs e s,E.root r=some cs/\cs[c]?=some (.sl true e s a)/\∀row',uV E r c row'=cs.set c (.sl true e s row'):=by
 unfold Qe at h;unfold uV;split at h
 ·rename_i cs hr;split at h
  ·rename_i e s row' hc
   injection h with h
   subst h;exact⟨cs,e,s,hr,hc,λrow''=>by simp only [hc]⟩
  cases h
 cases h
section
variable {o:Oper} {x:α}
theorem K1 (hf:∀x,(f x).length=sz) (hx:gi l n=some x) (k c:Nat) (z:α) (ho:nB P E o k sz=true:=by kernel_rfl) (hp:(hO P E o).ptr? (PH o).2.1=some ((tX P E o).1,[c],n.toNat*sz+k):=by kernel_rfl) (hr:Qe (hO P E o) (tX P E o).1 c=some (AR f l):=by kernel_rfl) (hz:setRow (f x) k (pS P E o)=f z:=by kernel_rfl):C4 P N false E o=some (((hO P E o).setRoot (tX P E o).1 (uV (hO P E o) (tX P E o).1 c (AR f (si l n z)))).bump (tX P E o).1):=by
 obtain⟨cs,e,s,h1,h2,h3⟩:=Qd hr;refine AAA hf hx k ho hp h1 ?_;rw [h3];have hk:Nat.ble (k+(pS P E o).length) sz=true:=by
  simp only [nB,Al]at ho;exact ho.2
 exact At.one (TJ hf hx hk hz) h2 rfl
end
section
variable {o:Oper} {x:α}
theorem ABo (hf:∀x,(f x).length=sz) (hx:gi l n=some x) (k c:Nat) (z:α) (hf':∀x,(f' x).length=sz') (hx':gi l' n'=some x') (k':Nat) (z':α') (ho:(nB P E o k sz&&Nat.blt k' sz')=true:=by kernel_rfl) (hp:(hO P E o).ptr? (PH o).2.1=some ((tX P E o).1,[c,n'.toNat*sz'+k'],n.toNat*sz+k):=by kernel_rfl) (hr:Qe (hO P E o) (tX P E o).1 c=some (AR f' l'):=by kernel_rfl) (hz:setRow (f x) k (pS P E o)=f z:=by kernel_rfl) {e s:Nat} (hc:(f' x')[k']?=some (.sl true e s (AR f l)):=by rfl) (hc':(f' x').set k' (.sl true e s (AR f (si l n z)))=f' z':=by rfl):C4 P N false E o=some (((hO P E o).setRoot (tX P E o).1 (uV (hO P E o) (tX P E o).1 c (AR f' (si l' n' z')))).bump (tX P E o).1):=by
 obtain⟨cs,e1,s1,h1,h2,h3⟩:=Qd hr;rw [Al]at ho;refine AAA hf hx k ho.1 hp h1 ?_;rw [h3];have hk:Nat.ble (k+(pS P E o).length) sz=true:=by
  have:=ho.1;simp only [nB,Al]at this;exact this.2
 exact AAS hf' hx' (At.one (TJ hf hx hk hz) hc hc') ho.2 h2 rfl
end
theorem KB.o {ops:Array Oper} {ts dn:List Nat} (mv:Bool) (h:KW P N ops ts (i::dn) ((C4 P N mv E (oA ops i)).getD E) Q) (hs:(C4 P N mv E (oA ops i)).isSome=true:=by kernel_rfl) (hk:(P7 P ops E i&&(kp (oA ops i)||ts.contains i))=true:=by kernel_rfl):KB P N ops ts dn i E Q:=Gh (getD_some hs) h hk
def bits:Nat->List (TypeId×Operand)->List (Bool×TypeId×Operand)
 |_,[]=>[]
 |m,(t,x)::l=>(Nat.beq (m %2) 1,t,x)::bits (m/2) l
def NV (o:Oper):Nat:=match o.op with
 | .call c=>match c.callee with
  | .value (.func f)=>f
  |_=>0
 |_=>0
def Gc (o:Oper):List (TypeId×Operand):=match o.op with
 | .call c=>c.argTypes.toList.zip c.args.toList
 |_=>[]
def Ru (P:Program) (N:Nat) (o:Oper):Bool:=(match o.op with
 | .call c=>match c.callee with
  | .value (.func f)=>Nat.beq c.argTypes.size c.args.size&&(match P.funcs[f]? with
   | some fn => !(fn.name == "runtime.NumGoroutine") && !fn.body.isNone
   |none=>false)
  |_=>false
 |_=>false)&&(match o.dst with
 |some d=>Nat.blt d N
 |none=>true)
theorem NX:∀{l:List (TypeId×Operand)} {m:Nat},(bits m l).map (λx=>x.2.2)=l.map Prod.snd
 |[],m=>rfl
 |(t,x)::l,m=>by simp only [bits,B8,NX]
theorem Nm {o:Oper} (h:Ru P N o=true):∃args tys,o.op= .call {callee:= .value (.func (NV o)),args:=args,argTypes:=tys}/\Yp P (NV o)/\(∀d,o.dst=some d->d<N)/\(Gc o).map Prod.snd=args.toList:=by
 simp only [Ru,Al]at h;obtain⟨h1,h2⟩:=h;have hN:∀d,o.dst=some d->d<N:=by
  intro d hd;rw [hd]at h2;simpa [Bn]using h2
 unfold NV Gc;split at h1
 ·rename_i c hc;split at h1
  ·rename_i f a;rw [Al]at h1;obtain⟨h3,h4⟩:=h1;split at h4
   ·rename_i fn b;simp only [Al,C8]at h4;obtain⟨callee,args,types⟩:=c;simp only at a h3;subst a;have hz:=Bt h3;refine⟨args,types,by simp only [hc],?_,hN,?_⟩
    ·exact⟨fn,b,by intro e;rw [e]at h4;simp at h4,h4.2⟩
    exact List.map_snd_zip (by simp [hz])
   cases h4
  cases h1
 cases h1
def mvA (P:Program) (E:St) (o:Oper) (m:Nat):Option (List (Option SV)×St):=L5 P E (bits m (Gc o))
def uA (P:Program) (E:St) (o:Oper) (m:Nat):St:=((mvA P E o m).map Prod.snd).getD E
def shA (P:Program) (E:St) (o:Oper) (m:Nat):Option (List AV×Bool):=match mvA P E o m with
 |some (ss,E1)=>IC P E1 (bits m (Gc o)) ss
 |none=>none
def XI (P:Program) (E:St) (o:Oper) (m:Nat):Option (List AV):=(shA P E o m).map Prod.fst
def tY (P:Program) (E:St) (o:Oper) (m:Nat):Bool:=match shA P E o m with
 |some (_,b)=>b
 |none=>false
theorem sN {o:Oper} {a:SV} (h:XI P E o m=some as) (hc:tY P E o m=true\/Bl a=false):VR P E o.dst (bits m (Gc o)) as a ((uA P E o m).put o.dst a):=by
 unfold XI tY shA at*;unfold uA
 cases hm:mvA P E o m with
 |none=>rw [hm]at h;cases h
 |some z=>
  obtain⟨ss,E1⟩:=z;rw [hm]at h hc;simp only at h hc
  cases hs:IC P E1 (bits m (Gc o)) ss with
  |none=>rw [hs]at h;cases h
  |some y=>
   obtain⟨as',c⟩:=y;rw [hs]at h hc;simp only [B5]at h hc
   injection h with h
   subst h;exact⟨ss,E1,c,hm,hs,hc,rfl⟩
theorem ca {γ:Type _} {l l':List γ} {a b:γ} (h:a=b) (k:l=l'):a::l=b::l':=by rw [h,k]
theorem cs {e sz:Nat} {a b:List TV} (h:BH a=b):TV.sl false e sz (BH a)= .sl false e sz b:=by rw [h]
theorem co {a b:TV} (h:a=b):AV.sv (.one a)= .sv (.one b):=by rw [h]
theorem Rv {a b:List TV} (h:a=b):AV.sv (.agg a)= .sv (.agg b):=by rw [h]
theorem RW.c {l:List AV} {n:Nat} {x:Option α} (m:Nat) (h:x.bind kk=some r) {enc:α->SV} (a:∀v,x=some v->AM P (NV (oA ops i)) l (enc v) (List.replicate n .gone)) (hk:∀v,x=some v->kk v=some r->RW P N ops (i+1) ((uA P E (oA ops i) m).put (oA ops i).dst (enc v)) Q) (b:XI P E (oA ops i) m=some l:=by kernel_rfl) (hc:tY P E (oA ops i) m=true\/∀v,Bl (enc v)=false:=by exact .inl (by kernel_rfl)) (ho:(P7 P ops E i&&Ru P N (oA ops i))=true:=by kernel_rfl):RW P N ops i E Q:=by
 obtain⟨v,hv,h⟩:=Ar.1 h;rw [Al]at ho;obtain⟨h1,h2⟩:=H5 ho.1;obtain⟨args,tys,h3,h4,h5,h6⟩:=Nm ho.2;unfold RW;rw [Gp h1];exact GX.call h3 h4 h2 h5 (bits m (Gc (oA ops i))) (by rw [NX,h6]) (a v hv) (sN b (hc.imp id (λh=>h v))) (hk v hv h)
section
variable {ts:List Nat}
theorem KB.c {l:List AV} {n:Nat} {x:Option α} (m:Nat) (h:x.bind kk=some r) {enc:α->SV} (a:∀v,x=some v->AM P (NV (oA ops i)) l (enc v) (List.replicate n .gone)) (hk:∀v,x=some v->kk v=some r->KW P N ops ts (i::dn) ((uA P E (oA ops i) m).put (oA ops i).dst (enc v)) Q) (b:XI P E (oA ops i) m=some l:=by kernel_rfl) (hc:tY P E (oA ops i) m=true\/∀v,Bl (enc v)=false:=by exact .inl (by kernel_rfl)) (ho:(P7 P ops E i&&Ru P N (oA ops i)&&((bits m (Gc (oA ops i))).all (λx=>!x.1)||ts.contains i))=true:=by kernel_rfl):KB P N ops ts dn i E Q:=by
 obtain⟨v,hv,h⟩:=Ar.1 h;simp only [Al]at ho;obtain⟨h1,h2⟩:=H5 ho.1.1;obtain⟨args,tys,h3,h4,h5,h6⟩:=Nm ho.1.2;exact ZI.call i (Iw h1) h3 h4 h2 h5 (bits m (Gc (oA ops i))) (by rw [NX,h6]) ho.2 (a v hv) (sN b (hc.imp id (λh=>h v))) (hk v hv h)
end
theorem gs {f:FuncId} {l l':List AV} {n:Nat} {x:Option α} {enc:α->SV} (e:l=l') (h:∀v,x=some v->AM P f l' (enc v) (List.replicate n .gone)):∀v,x=some v->AM P f l (enc v) (List.replicate n .gone):=e▸h
def fS (E:St) (o:Oper):Root:=match Gc o with
 |(_,x)::_=>(Hi E x).1
 |[]=> .hand
def oT (E:St) (o:Oper):Bool:=match Gc o with
 |(_,x)::_=>(match E.ptr? x with
  |some (r,[],0)=>r.mem
  |_=>false)
 |[]=>false
def cxA (P:Program) (E:St) (o:Oper):Option (List AV×Bool):=IC P (E.without (fS E o)) (bits 0 (Gc o).tail) (List.replicate (bits 0 (Gc o).tail).length none)
def oU (P:Program) (E:St) (o:Oper):Option (List AV):=(cxA P E o).map Prod.fst
def cxB (P:Program) (E:St) (o:Oper):Bool:=match cxA P E o with
 |some (_,b)=>b
 |none=>false
theorem xZ {o:Oper} (h:oT E o=true):∃t x l,Gc o=(t,x)::l/\E.ptr? x=some (fS E o,[],0)/\(fS E o).mem=true:=by
 unfold oT at h;unfold fS;split at h
 ·rename_i t x l hl;split at h
  ·rename_i r hp;refine⟨t,x,l,hl,?_,?_⟩
   ·simp only [Hi,hp,Bw]
   simpa only [Hi,hp,Bw]using h
  cases h
 cases h
theorem sP {p:Prop} {o:Oper} (h:oU P E o=some as) (hc:cxB P E o=true\/p):∃c,IC P (E.without (fS E o)) (bits 0 (Gc o).tail) (List.replicate (bits 0 (Gc o).tail).length none)=some (as,c)/\(c=true\/p):=by
 unfold oU cxB at*
 cases hs:cxA P E o with
 |none=>rw [hs]at h;cases h
 |some y=>
  obtain⟨as',c⟩:=y;rw [hs]at h hc;simp only [B5]at h hc
  injection h with h
  subst h;exact⟨c,hs,hc⟩
theorem AAN {l:List AV} {n:Nat} {x:Option α} (h:x.bind kk=some r) {enc:α->SV} {b:List TV} (e:∀v,x=some v->AM P (NV (oA ops i)) (.ext b::l) (enc v) (.ext (fin v)::List.replicate n .gone)) (d:∀v,(fin v).length=b.length) (hk:∀v,x=some v->kk v=some r->RW P N ops (i+1) (((E.setRoot (fS E (oA ops i)) (fin v)).bump (fS E (oA ops i))).put (oA ops i).dst (enc v)) Q) (f:oU P E (oA ops i)=some l:=by kernel_rfl) (hb:E.boxes (fS E (oA ops i))=some b:=by kernel_rfl) (hc:cxB P E (oA ops i)=true\/∀v,Bl (enc v)=false/\AI (fin v)=false:=by exact .inl (by kernel_rfl)) (ho:(P7 P ops E i&&Ru P N (oA ops i)&&oT E (oA ops i))=true:=by kernel_rfl):RW P N ops i E Q:=by
 obtain⟨v,hv,h⟩:=Ar.1 h;simp only [Al]at ho;obtain⟨h1,h2⟩:=H5 ho.1.1;obtain⟨args,tys,h3,h4,h5,h6⟩:=Nm ho.1.2;obtain⟨t,x0,l0,h7,h8,h9⟩:=xZ ho.2;obtain⟨c,h10,h11⟩:=sP f hc;unfold RW;rw [Gp h1];intro w0 FA UA w a blk FS US hr hF hU;simp only [wpList,Co hr h2,BX];refine .inl (fZ hr hF hU h3 h4 h5 (x:=x0) (l:=bits 0 (Gc (oA ops i)).tail) ?_ h9 h8 hb (d v) h10 (h11.imp id (λh=>h v)) (e v hv) λw' v' blk' FS' US' k1 k2 k3=>hk v hv h _ _ _ _ _ _ _ _ k1 k2 k3);rw [NX,<-h6,h7];rfl
theorem AAR {ts:List Nat} {l:List AV} {n:Nat} {x:Option α} (h:x.bind kk=some r) {enc:α->SV} {b:List TV} (e:∀v,x=some v->AM P (NV (oA ops i)) (.ext b::l) (enc v) (.ext (fin v)::List.replicate n .gone)) (d:∀v,(fin v).length=b.length) (hk:∀v,x=some v->kk v=some r->KW P N ops ts (i::dn) (((E.setRoot (fS E (oA ops i)) (fin v)).bump (fS E (oA ops i))).put (oA ops i).dst (enc v)) Q) (f:oU P E (oA ops i)=some l:=by kernel_rfl) (hb:E.boxes (fS E (oA ops i))=some b:=by kernel_rfl) (hc:cxB P E (oA ops i)=true\/∀v,Bl (enc v)=false/\AI (fin v)=false:=by exact .inl (by kernel_rfl)) (ho:(P7 P ops E i&&Ru P N (oA ops i)&&oT E (oA ops i)&&ts.contains i)=true:=by kernel_rfl):KB P N ops ts dn i E Q:=by
 obtain⟨v,hv,h⟩:=Ar.1 h;simp only [Al]at ho;obtain⟨h1,h2⟩:=H5 ho.1.1.1;obtain⟨args,tys,h3,h4,h5,h6⟩:=Nm ho.1.1.2;obtain⟨t,x0,l0,h7,h8,h9⟩:=xZ ho.1.2;obtain⟨c,h10,h11⟩:=sP f hc;intro w0 FA UA w a blk FS US hr hF hU;unfold wpOp;simp only [Iw h1,Co hr h2,BX];refine .inl (fZ hr hF hU h3 h4 h5 (x:=x0) (l:=bits 0 (Gc (oA ops i)).tail) ?_ h9 h8 hb (d v) h10 (h11.imp id (λh=>h v)) (e v hv) λw' v' blk' FS' US' k1 k2 k3=>⟨λht=>(by rw [ho.2]at ht;cases ht),_,_,_,_,hk v hv h,k1,k2,k3⟩);rw [NX,<-h6,h7];rfl
theorem wc {b:Bool} {c:Operand} {x y:Code} (h:(bif b then tx else ty)=some r) (ht:tx=some r->Wp P N x E Q) (hf:ty=some r->Wp P N y E Q) (hc:E.cell1 P 0 c=some (.bool b):=by kernel_rfl):Wp P N (.cond c x y) E Q:=Wp.c h ht hf hc
theorem wt {c:Operand} {x y:Code} (ht:Wp P N x E Q) (hc:E.cell1 P 0 c=some (.bool true):=by kernel_rfl):Wp P N (.cond c x y) E Q:=AAI ht hc
theorem wf {c:Operand} {x y:Code} (hf:Wp P N y E Q) (hc:E.cell1 P 0 c=some (.bool false):=by kernel_rfl):Wp P N (.cond c x y) E Q:=AAJ hf hc
theorem rsz {rs:List ResultVar} {a:SV} (h:(DO P E rs).map (λz=>Ev z.1)=some a):∃ss E',DO P E rs=some (ss,E')/\Ev ss=a:=by
 obtain⟨z,h1,h2⟩:=AY.1 h;exact⟨z.1,z.2,h1,h2⟩
theorem rsx {rt:Root} {rs:List ResultVar} {b:SV} {a:List TV} (h:(DO P E rs).map (λz=>(Ev z.1,z.2.boxes rt))=some (b,some a)):∃ss E',DO P E rs=some (ss,E')/\Ev ss=b/\E'.boxes rt=some a:=by
 obtain⟨z,h1,h2⟩:=AY.1 h
 injection h2 with h3 h4
 exact⟨z.1,z.2,h1,h3,h4⟩
theorem gkx {f:FuncId} {c:Code} {a cells':List TV} {b:SV} (hf:P.funcs[f]?=some fn) (hb:fn.body=some c) (hN:fn.ntmps=N) (h:Wp P N c (DA (.ext a::as)) λe E=>(e= .normal\/e= .ret)/\∃ss E',DO P E fn.results.toList=some (ss,E')/\Ev ss=b/\E'.boxes (.ext 0)=some cells') (d:cells'.isEmpty=false:=by rfl):AM P f (.ext a::as) b (.ext cells'::List.replicate as.length .gone):=oO hf hb (by rw [hN];exact h) d
theorem gk {f:FuncId} {c:Code} {a:SV} (hf:P.funcs[f]?=some fn) (hb:fn.body=some c) (hN:fn.ntmps=N) (h:Wp P N c (DA as) λe E=>(e= .normal\/e= .ret)/\∃ss E',DO P E fn.results.toList=some (ss,E')/\Ev ss=a):AM P f as a (List.replicate as.length .gone):=sD hf hb (by rw [hN];exact h)
theorem iA:∀t:TV,(LB t).isSl=t.isSl:=by intro t;cases t<;>rfl
theorem JC:∀(cs:List TV) (j:Nat),(BH cs)[j]?=cs[j]?.map LB
 |[],j=>by simp [BH]
 |t::ts,0=>by simp [BH]
 |t::ts,j+1=>by simpa [BH]using JC ts j
theorem UZ:∀(q:List Nat) (cs:List TV),BZ (BH cs) q=(BZ cs q).map BH
 |[],cs=>rfl
 |c::q,cs=>by
  simp only [BZ,JC]
  cases cs[c]? with
  |none=>rfl
  |some t=>
   cases t with
   |sl o e sz cells=>exact UZ q cells
   |_=>rfl
def jP:TV->List TV->TV
 | .sl _ e s _,row=> .sl false e s row
 |t,_=>t
def Xl (cs:List TV) (j:Nat) (a:List TV):List TV:=match cs[j]? with
 |some t=>cs.set j (jP t a)
 |none=>cs
theorem cE {cs:List TV} {j e s:Nat} {a:List TV} (h:cs[j]?=some (.sl true e s a)) (c:Nat):(Xl cs j (BH a))[c]?=if c=j then some (.sl false e s (BH a))else cs[c]? :=by
 have hj:=(Ag.1 h).1;simp only [Xl,h,jP];rw [Ci];by_cases hc:j=c
 ·subst hc;simp [hj]
 rw [Ax hc,Ax (λe=>hc e.symm)]
theorem sJ {r1:List TV} {cs:List TV} {j e s:Nat} {a:List TV} (h:cs[j]?=some (.sl true e s a)) {q:List Nat} (hq:BZ cs q=some r1) (i:Nat):
  ∃r2,BZ (Xl cs j (BH a)) q=some r2/\(r1[i]?.isSome=true->r2[i]?.isSome=true)/\(Kg r1[i]?=true->Kg r2[i]?=true):=by
 cases q with
 |nil=>
  simp only [BZ]at hq
  injection hq with hq
  subst hq;refine⟨_,rfl,?_,?_⟩
  ·rw [cE h];split
   ·intro _;rfl
   exact id
  rw [cE h];split
  ·intro _;rfl
  exact id
 |cons c q=>
  simp only [BZ,cE h];simp only [BZ]at hq;by_cases hc:c=j
  ·subst hc;rw [h]at hq;simp only at hq;rw [Au rfl];simp only [UZ,hq,B5];refine⟨_,rfl,?_,?_⟩
   ·rw [JC];simp
   rw [JC]
   cases r1[i]? with
   |none=>exact id
   |some t=>simp only [Kg,B5,iA];exact id
  rw [Ax hc];exact⟨r1,hq,id,id⟩
theorem WH:∀{ts:List TV} {vs:List Value} {F U:List Nat} {j:Nat} {t:TV},B4 w ts vs F U->ts[j]?=some t->F.Nodup->(∀v F1 U1,Cz w t v F1 U1->∃F2 U2,Cz w t' v F2 U2/\IB F1 U1 F2 U2)->
  ∃F' U',B4 w (ts.set j t') vs F' U'/\IB F U F' U'
 |[],vs,F,U,j,t,h,hj,_,_=>by simp at hj
 |x::ts,vs,F,U,0,t,h,hj,hn,hk=>by
  simp at hj;subst hj;simp only [B4]at h;obtain⟨v,a,F1,F2,U1,U2,rfl,rfl,rfl,h1,h2⟩:=h;obtain⟨F1',U1',a1,a2⟩:=hk v F1 U1 h1;exact⟨F1'++F2,U1'++U2,by simp only [CW,B4];exact⟨v,a,F1',F2,U1',U2,rfl,rfl,rfl,a1,h2⟩,QU hn a2 IB.refl⟩
 |x::ts,vs,F,U,j+1,t,h,hj,hn,hk=>by
  simp only [B4]at h;obtain⟨v,a,F1,F2,U1,U2,rfl,rfl,rfl,h1,h2⟩:=h;obtain⟨F2',U2',a1,a2⟩:=WH h2 (by simpa using hj) (Bo.1 hn).2.1 hk;exact⟨F1++F2',U1++U2',by simp only [GP,B4];exact⟨v,a,F1,F2',U1,U2',rfl,rfl,rfl,h1,a1⟩,QU hn IB.refl a2⟩
theorem Xt {a:Act} {blk:Root->Nat}:∀{ts:List TV} {vs:List Value} {F U:List Nat} {j:Nat} {t:TV},CT w a E blk ts vs F U->ts[j]?=some t->F.Nodup->(∀v F1 U1,CS w a E blk t v F1 U1->∃F2 U2,CS w a E blk t' v F2 U2/\IB F1 U1 F2 U2)->
  ∃F' U',CT w a E blk (ts.set j t') vs F' U'/\IB F U F' U'
 |[],vs,F,U,j,t,h,hj,_,_=>by simp at hj
 |x::ts,vs,F,U,0,t,h,hj,hn,hk=>by
  simp at hj;subst hj;obtain⟨v,b,F1,F2,U1,U2,rfl,rfl,rfl,h1,h2⟩:=h;obtain⟨F1',U1',a1,a2⟩:=hk v F1 U1 h1;exact⟨F1'++F2,U1'++U2,by rw [CW];exact⟨v,b,F1',F2,U1',U2,rfl,rfl,rfl,a1,h2⟩,QU hn a2 IB.refl⟩
 |x::ts,vs,F,U,j+1,t,h,hj,hn,hk=>by
  obtain⟨v,b,F1,F2,U1,U2,rfl,rfl,rfl,h1,h2⟩:=h;obtain⟨F2',U2',a1,a2⟩:=Xt h2 (by simpa using hj) (Bo.1 hn).2.1 hk;exact⟨F1++F2',U1++U2',by rw [GP];exact⟨v,b,F1,F2',U1,U2',rfl,rfl,rfl,h1,a1⟩,QU hn IB.refl a2⟩
def frE (E:St) (r:Root) (j:Nat) (a:List TV):St:=match E.root r with
 |some cs=>E.setRoot r (Xl cs j a)
 |none=>E
theorem jO {a:Act} {r:Root} {cs:List TV} {j e s:Nat} {b:List TV} (hr:E.root r=some cs) (hj:cs[j]?=some (.sl true e s b)) (hh:r≠ .hand) (R:Root):Cr w w a a E (E.setRoot r (Xl cs j (BH b))) blk blk R:=by
 have d:(E.setRoot r (Xl cs j (BH b))).ver=E.ver:=by cases r<;>rfl
 have f:(E.setRoot r (Xl cs j (BH b))).gen=E.gen:=by cases r<;>rfl
 have g:(Xl cs j (BH b)).length=cs.length:=by simp [Xl,hj]
 have c:∀cs0,E.root R=some cs0->∃cs1,(E.setRoot r (Xl cs j (BH b))).root R=some cs1/\∀q r1,BZ cs0 q=some r1->∀i:Nat,∃r2,BZ cs1 q=some r2/\(r1[i]?.isSome=true->r2[i]?.isSome=true)/\(Kg r1[i]?=true->Kg r2[i]?=true):=by
  intro cs0 h0;by_cases hR:R=r
  ·subst hR;rw [hr]at h0
   injection h0 with h0
   subst h0;refine⟨Xl cs j (BH b),?_,λq r1 hq i=>sJ hj hq i⟩
   cases R with
   |slot n=>
    simp only [St.root,St.setRoot,Cn,BX]at hr⊢
    injection hr with hr
    congr 1
    cases hs:E.slots n with
    |one t=>
     rw [hs]at hr;simp only [SV.cells]at hr;subst hr;have:(Xl [t] j (BH b)).length=1:=g
     match hf:Xl [t] j (BH b),this with
     |[x],_=>rfl
    |agg ts=>rfl
    |tup ss=>
     rw [hs]at hr;simp only [SV.cells]at hr;subst hr;simp at hj
   |box n=>simp [St.root,St.setRoot,Cn]
   |ext n=>simp [St.root,St.setRoot,Cn]
   |hand=>exact absurd rfl hh
  refine⟨cs0,?_,λq r1 hq i=>⟨r1,hq,id,id⟩⟩;rw [<-h0];cases r<;>cases R<;>simp only [St.root,St.setRoot,Cn]<;>first
   |exact absurd rfl hh
   |rfl
   |(rw [Ax];intro e;exact hR (by rw [e]))
   |(rw [Ax];intro e;injection e with e;exact hR (by rw [e]))
   |(rw [Ax];intro e;cases e)
 constructor
 ·refine .inr ⟨by rw [d],λq i v h1 h2=>⟨h1,?_⟩,λq i ad hq h1 h2=>⟨h1,?_⟩⟩
  ·unfold St.place at h2⊢
   cases h0:E.root R with
   |none=>rw [h0]at h2;cases h2
   |some cs0=>
    rw [h0]at h2;obtain⟨cs1,k1,k2⟩:=c cs0 h0;simp only [Aa]at h2
    cases hc:BZ cs0 q with
    |none=>rw [hc]at h2;cases h2
    |some r1=>
     rw [hc]at h2;obtain⟨r2,k3,_,k4⟩:=k2 q r1 hc i;rw [k1];simp only [Aa,k3];exact k4 h2
  unfold St.place at h2⊢
  cases h0:E.root R with
  |none=>rw [h0]at h2;cases h2
  |some cs0=>
   rw [h0]at h2;obtain⟨cs1,k1,k2⟩:=c cs0 h0;simp only [Aa]at h2
   cases hc:BZ cs0 q with
   |none=>rw [hc]at h2;cases h2
   |some r1=>
    rw [hc]at h2;obtain⟨r2,k3,k4,_⟩:=k2 q r1 hc i;rw [k1];simp only [Aa,k3];exact k4 h2
 refine .inr ⟨by rw [f],λi ad h1 h2=>⟨h1,?_⟩⟩;unfold St.place at h2⊢
 cases h0:E.root R with
 |none=>rw [h0]at h2;cases h2
 |some cs0=>
  rw [h0]at h2;obtain⟨cs1,k1,k2⟩:=c cs0 h0;simp only [Aa]at h2;obtain⟨r2,k3,k4,_⟩:=k2 [] cs0 rfl i;rw [k1];simp only [Aa,k3];exact k4 h2
section
variable {w0:Base} {a:Act}
theorem CM.freeze {r:Root} (h:CM w0 FA UA N w a E blk FS US) {cs:List TV} {j e s:Nat} {c:List TV} (hr:E.root r=some cs) (hj:cs[j]?=some (.sl true e s c)) (hh:r≠ .hand):
  ∃FS' US',CM w0 FA UA N w a (E.setRoot r (Xl cs j (BH c))) blk FS' US'/\FS' .hand=FS .hand/\US' .hand=US .hand:=by
 have x:=jO (w:=w) (a:=a) (blk:=blk) hr hj hh;have f:Xl cs j (BH c)=cs.set j (.sl false e s (BH c)):=by simp only [Xl,hj,jP]
 have l:∀v F1 U1,Cz w (.sl true e s c) v F1 U1->∃F2 U2,Cz w (.sl false e s (BH c)) v F2 U2/\IB F1 U1 F2 U2:=λv F1 U1 h1=>yP h1 (pD.s rfl)
 have y:∃F' U',IB (FS r) (US r) F' U'/\(∀n,r= .slot n->Ep w a (E.setRoot r (Xl cs j (BH c))) blk ((E.slots n).withCells (Xl cs j (BH c))) (a.eval (.tmp n)) F' U')/\
   (r.mem=true->∃d T F,w.heap[blk r]?=some (.cells d T (0,0))/\B4 w (Xl cs j (BH c)) d.toList F U'/\F'=blk r::F):=by
  cases r with
  |slot n=>
   simp only [St.root]at hr
   injection hr with hr
   have hs:=HG x (h.slot n) (λ_ _=>rfl) (λ_ _=>rfl)
   cases g:E.slots n with
   |one t=>
    rw [g]at hr hs;simp only [SV.cells]at hr;subst hr;have z:j=0:=by
     have:=(Ag.1 hj).1;simpa using this
    subst z;simp at hj;subst hj;simp only [Ep]at hs;obtain⟨F2,U2,k1,k2⟩:=l _ _ _ hs.1;refine⟨F2,U2,k2,λm hm=>?_,λhm=>(by cases hm)⟩
    injection hm with hm
    subst hm;rw [g,f];simp only [CW,SV.withCells,Ep];exact⟨k1,λ_=>hs.2 rfl⟩
   |agg ts=>
    rw [g]at hr hs;simp only [SV.cells]at hr;subst hr;simp only [Ep]at hs;obtain⟨vs,k0,k1⟩:=hs;obtain⟨F2,U2,k2,k3⟩:=Xt (t':= .sl false e s (BH c)) k1 hj (h.nodup _) l;refine⟨F2,U2,k3,λm hm=>?_,λhm=>(by cases hm)⟩
    injection hm with hm
    subst hm;rw [g,f];simp only [SV.withCells,Ep];rw [f]at k2;exact⟨vs,k0,k2⟩
   |tup ss=>
    rw [g]at hr;simp only [SV.cells]at hr;subst hr;simp at hj
  |hand=>exact absurd rfl hh
  |box n=>
   rcases h.box (.box n) rfl with⟨k,_⟩|⟨cs0,d,T,F,k1,k2,k3,k4⟩
   ·simp only [St.root]at hr;rw [k]at hr;cases hr
   simp only [St.root]at hr;rw [k1]at hr
   injection hr with hr
   subst hr;have i:=h.nodup (.box n);rw [k4]at i;obtain⟨o,p⟩:=Dv.1 i;obtain⟨F2,U2,k5,k6⟩:=WH (t':= .sl false e s (BH c)) k3 hj p l;refine⟨blk (.box n)::F2,U2,?_,λm hm=>(by cases hm),λ_=>⟨d,T,F2,k2,by rw [f];exact k5,rfl⟩⟩;rw [k4];refine⟨k6.1.cons_cons _,λb hb=>?_⟩
   rcases k6.2 b hb with q|⟨q1,q2⟩
   ·exact .inl q
   refine .inr ⟨by simp [q1],λhc=>?_⟩
   rcases BB.1 hc with rfl|hc
   ·exact o q1
   exact q2 hc
  |ext n=>
   rcases h.box (.ext n) rfl with⟨k,_⟩|⟨cs0,d,T,F,k1,k2,k3,k4⟩
   ·simp only [St.root]at hr;rw [k]at hr;cases hr
   simp only [St.root]at hr;rw [k1]at hr
   injection hr with hr
   subst hr;have i:=h.nodup (.ext n);rw [k4]at i;obtain⟨o,p⟩:=Dv.1 i;obtain⟨F2,U2,k5,k6⟩:=WH (t':= .sl false e s (BH c)) k3 hj p l;refine⟨blk (.ext n)::F2,U2,?_,λm hm=>(by cases hm),λ_=>⟨d,T,F2,k2,by rw [f];exact k5,rfl⟩⟩;rw [k4];refine⟨k6.1.cons_cons _,λb hb=>?_⟩
   rcases k6.2 b hb with q|⟨q1,q2⟩
   ·exact .inl q
   refine .inr ⟨by simp [q1],λhc=>?_⟩
   rcases BB.1 hc with rfl|hc
   ·exact o q1
   exact q2 hc
 obtain⟨F',U',hl,h0,h2⟩:=y
 have u:∀b∈F',b∈FS r:=λb hb=>hl.1.subset hb
 refine⟨Cn FS r F',Cn US r U',?_,by rw [Bu (λe=>hh e.symm)],by rw [Bu (λe=>hh e.symm)]⟩;have hF:∀R b,b∈Cn FS r F' R->b∈FS R:=by
  intro R b hb;by_cases hR:R=r
  ·subst hR;rw [BT]at hb;exact u b hb
  rw [Bu hR]at hb;exact hb
 have hU:∀R b,b∈Cn US r U' R->b∈US R\/(R=r/\b∈FS r/\b∉F'):=by
  intro R b hb;by_cases hR:R=r
  ·subst hR;rw [BT]at hb
   rcases hl.2 b hb with q|⟨q1,q2⟩
   ·exact .inl q
   exact .inr ⟨rfl,q1,q2⟩
  rw [Bu hR]at hb;exact .inl hb
 constructor
 ·intro n;by_cases hn:r= .slot n
  ·subst hn;rw [BT,BT];have:=h0 n rfl;simpa only [St.setRoot,Cn,BX]using this
  rw [Bu (λe=>hn e.symm),Bu (λe=>hn e.symm)];have h1:(E.setRoot r (Xl cs j (BH c))).slots n=E.slots n:=by
   cases r with
   |slot m=>
    simp only [St.setRoot,Cn];rw [Ax];intro e;exact hn (by rw [e])
   |_=>rfl
  rw [h1];exact HG x (h.slot n) (λ_ _=>rfl) (λ_ _=>rfl)
 ·intro R hm;by_cases hR:R=r
  ·subst hR;right;obtain⟨d,T,F,k1,k2,k3⟩:=h2 hm;refine⟨_,d,T,F,?_,k1,by rw [BT];exact k2,by rw [BT,k3]⟩
   cases R with
   |slot n=>cases hm
   |hand=>cases hm
   |box n=>simp [St.setRoot,Cn]
   |ext n=>simp [St.setRoot,Cn]
  rw [Bu hR,Bu hR];have h1:(E.setRoot r (Xl cs j (BH c))).boxes R=E.boxes R:=by
   cases r<;>simp only [St.setRoot,Cn]<;>first
    |rfl
    |(rw [Ax hR])
  rw [h1];exact h.box R hm
 ·have:(E.setRoot r (Xl cs j (BH c))).boxes .hand=E.boxes .hand:=by
   cases r<;>simp only [St.setRoot,Cn]<;>first
    |exact absurd rfl hh
    |rfl
    |(rw [Ax (by simp)])
  rw [this];exact h.nohand
 ·intro R;by_cases hR:R=r
  ·subst hR;rw [BT];exact hl.1.nodup (h.nodup R)
  rw [Bu hR];exact h.nodup R
 ·exact λR S h3 b hb hb'=>h.dis R S h3 b (hF R b hb) (hF S b hb')
 ·intro R S b hb hb'
  rcases hU S b hb' with q|⟨rfl,q1,q2⟩
  ·exact h.disU R S b (hF R b hb) q
  by_cases hR:R=S
  ·subst hR;rw [BT]at hb;exact q2 hb
  exact h.dis R S hR b (hF R b hb) q1
 ·exact λR b hb=>h.inF R b (hF R b hb)
 ·intro R b hb
  rcases hU R b hb with q|⟨rfl,q1,_⟩
  ·exact h.inU R b q
  obtain⟨q2,q3⟩:=h.inF R b q1;exact⟨.inr q2,q3⟩
 ·exact h.disA
 ·exact h.os
 ·exact h.tape
 ·exact h.output
 ·exact h.size
 ·exact h.keep
 ·exact h.len
 ·exact h.nodef
 ·exact h.xblk
 ·rw [Eb];exact h.ambB
 ·rw [Eb];exact h.ambI
 ·rw [HJ];exact h.frz
 ·exact h.ambF
 rw [Eb];exact h.pin
end
theorem sL {r:Root} (h:Qe E r j=some row):∃cs e s,E.root r=some cs/\cs[j]?=some (.sl true e s row)/\frE E r j (BH row)=E.setRoot r (Xl cs j (BH row)):=by
 obtain⟨cs,e,s,h1,h2,_⟩:=Qd h;exact⟨cs,e,s,h1,h2,by unfold frE;rw [h1]⟩
def VG:Root->Bool
 | .hand=>false
 |_=>true
theorem RY {r:Root} (h:VG r=true):r≠ .hand:=by rintro rfl;cases h
theorem RW.fz (r:Root) (j:Nat) (hs:BH row=row') (h:RW P N ops i (frE E r j row') Q) (ho:Qe E r j=some row:=by kernel_rfl) (hh:VG r=true:=by rfl):RW P N ops i E Q:=by
 intro w0 FA UA w a blk FS US hr hF hU;obtain⟨cs,e,s,h1,h2,h3⟩:=sL ho;obtain⟨FS',US',k1,k2,k3⟩:=hr.freeze h1 h2 (RY hh);rw [<-hs,h3]at h;exact h _ _ _ _ _ _ _ _ k1 (by rw [k2,hF]) (by rw [k3,hU])
theorem KW.fz {ts:List Nat} (r:Root) (j:Nat) (hs:BH row=row') (h:KW P N ops ts dn (frE E r j row') Q) (ho:Qe E r j=some row:=by kernel_rfl) (hh:VG r=true:=by rfl):KW P N ops ts dn E Q:=by
 intro hq hc w0 FA UA w a blk FS US hr hF hU;obtain⟨cs,e,s,h1,h2,h3⟩:=sL ho;obtain⟨FS',US',k1,k2,k3⟩:=hr.freeze h1 h2 (RY hh);rw [<-hs,h3]at h;exact h hq hc _ _ _ _ _ _ _ _ k1 (by rw [k2,hF]) (by rw [k3,hU])
theorem Wp.fz {c:Code} (r:Root) (j:Nat) (hs:BH row=row') (h:Wp P N c (frE E r j row') Q) (ho:Qe E r j=some row:=by kernel_rfl) (hh:VG r=true:=by rfl):Wp P N c E Q:=by
 intro w0 FA UA w a blk FS US hr hF hU;obtain⟨cs,e,s,h1,h2,h3⟩:=sL ho;obtain⟨FS',US',k1,k2,k3⟩:=hr.freeze h1 h2 (RY hh);rw [<-hs,h3]at h;exact h _ _ _ _ _ _ _ _ k1 (by rw [k2,hF]) (by rw [k3,hU])
def St.fzs (E:St) (f:Option Nat):St:={E with fz:=f}
theorem hJ {a:Act} {f:Option Nat} (r:Root):Cr w w a a E (E.fzs f) blk blk r:=by
 have hp:∀q j,(E.fzs f).place r q j=E.place r q j:=λq j=>by cases r<;>rfl
 exact⟨.inr ⟨rfl,λq j v h1 h2=>⟨h1,by rw [hp];exact h2⟩,λq j ad _ h1 h2=>⟨h1,by rw [hp];exact h2⟩⟩,.inr ⟨rfl,λj ad h1 h2=>⟨h1,by rw [hp];exact h2⟩⟩⟩
theorem CM.fzs {w0:Base} {a:Act} (h:CM w0 FA UA N w a E blk FS US) (f:Option Nat) (hf:∀n,f=some n->uC w0 a n):CM w0 FA UA N w a (E.fzs f) blk FS US where
 slot:=λn=>HG hJ (h.slot n) (λ_ _=>rfl) (λ_ _=>rfl)
 box:=h.box
 nohand:=h.nohand
 nodup:=h.nodup
 dis:=h.dis
 disU:=h.disU
 inF:=h.inF
 inU:=h.inU
 disA:=h.disA
 os:=h.os
 tape:=h.tape
 output:=h.output
 size:=h.size
 keep:=h.keep
 len:=h.len
 nodef:=h.nodef
 xblk:=h.xblk
 ambB:=h.ambB
 ambI:=h.ambI
 frz:=hf
 ambF:=h.ambF
 pin:=h.pin
theorem mD (n:Nat):(2*n+1)/2=n:=by omega
theorem mC (n:Nat):¬(2*n+1) %2=0:=by omega
def vX (o:Oper):Bool:=match o.op with
 | .buildSlice t len parts=>Nat.beq len 0&&Nat.beq parts.size 0
 |_=>false
theorem yN {a:Act} {nx:Next} {w':World} {o:Oper} (hb:vX o=true) (hd:o.dst=some d) (hN:d<N) (hs:C4 P N false E o=some E') (hr:(execOp a.eval o).run P w= .ok nx w'):∃B,nx= .value (.slice B 0 0):=by
 unfold vX at hb;split at hb
 ·rename_i t len parts ho;rw [Al]at hb;have h1:=Bt hb.1;have h2:=Bt hb.2;subst h1;have h3:parts= #[]:=Array.eq_empty_of_size_eq_zero h2;subst h3;simp only [C4,hd,Au hN,ho,KR]at hs;split at hs
  ·rename_i e hu;split at hs
   ·rename_i zs ss hz b;obtain⟨i,z,hi,c,f,g⟩:=Jh (w:=w) hz;simp [execOp,ho,Instr.buildSlice,run_underlying hu,sizeOf,typeInfo,hi,newRow,Instr.fill]at hr;obtain⟨hr,_⟩:=hr;exact⟨_,hr.symm⟩
   cases hs
  cases hs
 cases hb
def pU (x:Operand):Nat:=match x with
 | .tmp n=>n
 |_=>0
theorem kO {ts:List Nat} (h:KW P N ops ts (i::dn) (((C4 P N false E (oA ops i)).getD E).fzs (some (2*((oA ops i).dst.getD 0)+1))) Q) (hs:(C4 P N false E (oA ops i)).isSome=true:=by kernel_rfl) (hk:(P7 P ops E i&&vX (oA ops i)&&FQ N (oA ops i))=true:=by kernel_rfl):KB P N ops ts dn i E Q:=by
 have hs':=getD_some (a:=E) hs;generalize hE:(C4 P N false E (oA ops i)).getD E=E' at h hs';simp only [Al]at hk;obtain⟨h1,h2⟩:=H5 hk.1.1;obtain⟨d,h3,_,h4⟩:=E4 hk.2;rw [h3]at h;simp only [Bw]at h;have b:kp (oA ops i)=true:=by
  have:=hk.1.2;unfold vX at this;unfold kp;split at this
  ·rename_i ho;rw [ho]
  cases this
 intro w0 FA UA w a blk FS US hr hF hU;unfold wpOp;simp only [Iw h1,Co hr h2,BX];obtain⟨nx,w',v,blk',FS',US',k1,k2,k3,k4,k5,k6⟩:=PG hr hF hU hs';obtain⟨B,hB⟩:=yN (N:=N) hk.1.2 h3 h4 hs' k1;have hv:v= .slice B 0 0:=by
  rcases k2 with k2|⟨k2,_⟩
  ·rw [hB]at k2;injection k2 with k2;exact k2.symm
  rw [hB]at k2;cases k2
 refine .inl ?_;unfold Oper.wp;rw [k1,hB];refine⟨λ_=>k6 b,_,blk',FS',US',h,?_,k4,k5⟩;rw [hv]at k3;refine k3.fzs _ (λn hn=>?_)
 injection hn with hn
 subst hn;unfold uC;rw [Ax (mC d),mD d,h3];refine⟨B,?_⟩;have:=k3.len;simp only [Act.eval,Act.put];rw [Eo];have hl:=hr.len;have c:d<a.tmps.size:=Bb h4 hl;simp [Array.getElem?_setIfInBounds_self,c]
theorem KB.a {ts:List Nat} (hs:C4 P N false E (oA ops i)=some E') (h:KW P N ops ts (i::dn) (E'.fzs none) Q) (hk:(P7 P ops E i&&r6 (oA ops i)&&Nat.beq (E5 (oA ops i)).1 (E5 (oA ops i)).2.1&&FQ N (oA ops i))=true:=by kernel_rfl) (hx:(E5 (oA ops i)).2.2.1= .tmp (pU (E5 (oA ops i)).2.2.1):=by kernel_rfl) (hz:E.fz=some (2*pU (E5 (oA ops i)).2.2.1+1):=by kernel_rfl):KB P N ops ts dn i E Q:=by
 simp only [Al]at hk;obtain⟨⟨⟨h0,h5⟩,h6⟩,h7⟩:=hk;obtain⟨h1,h2⟩:=H5 h0;obtain⟨d,h3,_,h4⟩:=E4 h7;have c:=Bt h6;have ho:=bN h5;rw [<-c]at ho;intro w0 FA UA w a blk FS US hr hF hU;unfold wpOp;simp only [Iw h1,Co hr h2,BX];have he:Me P E d (E5 (oA ops i)).1 (E5 (oA ops i)).2.2.1 (E5 (oA ops i)).2.2.2=some E':=by
  unfold C4 at hs;rw [h3]at hs;simpa only [Au h4,ho,BX]using hs
 obtain⟨nx,w',v,blk',FS',US',k1,k2,k3,k4,k5,_,k6⟩:=T8 hr hF hU ho h3 h4 he;have b:=hr.frz _ hz;unfold uC at b;rw [Ax (mC _),mD,<-hx]at b;obtain⟨B,hB⟩:=b;refine .inl ?_;unfold Oper.wp;rw [k1]
 rcases k2 with rfl|⟨rfl,rfl⟩
 ·exact⟨λ_=>k6 B hB,_,blk',FS',US',h,k3.fzs none (λn hn=>by cases hn),k4,k5⟩
 exact⟨λ_=>k6 B hB,_,blk',FS',US',h,k3.fzs none (λn hn=>by cases hn),k4,k5⟩
def rm (k:IntKind) (a b:Int):Option Int:=if b=0 then none else some (a.tmod b)
def zI (k:IntKind) (a b:Int):Int:=k.wrap (BitVec.ofInt k.bits a&&&BitVec.ofInt k.bits b).toNat
def bxo (k:IntKind) (a b:Int):Int:=k.wrap (BitVec.ofInt k.bits a^^^BitVec.ofInt k.bits b).toNat
def wY (P:Program) (E:St) (o:Oper) (k:IntKind) (q:Bool):Option (Int×Int):=match o.op with
 | .binOp op t x y _=>bif(match op with| .rem=>!q| .quo=>q|_=>false)then(match E.cell1 P t x,E.cell1 P t y with
  |some (.int k' a),some (.int k'' b)=>bif decide (k'=k)&&decide (k''=k)then some (a,b)else none
  |_,_=>none)else none
 |_=>none
theorem prm {o:Oper} {a b v:Int} (hx:rm k a b=some v) (hc:wY P E o k false=some (a,b):=by kernel_rfl):Bh P E o=some (.one (.int k v)):=by
 unfold wY at hc;split at hc
 ·rename_i op t x y t' ho;cases op<;>simp only [AH,Af,Ac,reduceCtorEq]at hc;split at hc
  ·rename_i k' a' k2 b' h1 h2
   cases hk:(decide (k'=k)&&decide (k2=k))with
   |false=>rw [hk]at hc;cases hc
   |true=>
    rw [hk]at hc;simp only [Af]at hc
    injection hc with hc
    injection hc with hc1 hc2
    rw [Al]at hk;have e1:=J9 hk.1;have e2:=J9 hk.2;subst hc1 hc2 e1 e2;unfold rm at hx;split at hx
    ·cases hx
    rename_i hb
    injection hx with hx
    subst hx;simp only [Bh,ho,h1,h2,Uo,BX,Ve,r7,Ax hb,B5]
  cases hc
 cases hc
def cY (P:Program) (f:FuncId) (as:List AV) (a:List TV):Prop:=
 ∀(w:World) (vs:List Value) (FA UA:List Nat),JX w as vs FA UA->FA.Nodup->(∀b∈FA,b∉UA)->(∀b∈FA++UA,b<w.heap.size)->
  Calls P f vs.toArray w λe w'=>∃v F U G V,e= .returned v/\tQ w w' FA UA (.tup []) [.ext a] [v] (.tuple #[]) F U G V
theorem gkp {f:FuncId} {c:Code} {cells:List TV} (hf:P.funcs[f]?=some fn) (hb:fn.body=some c) (hN:fn.ntmps=N) (h:Wp P N c (DA as) λe E=>(e= .normal\/e= .ret)/\∃t r,fn.results.toList=[.tmp t]/\E.ptr? (.tmp t)=some (r,[],0)/\r.mem=true/\E.boxes r=some cells) (l:cells.isEmpty=false:=by rfl):cY P f as cells:=by
 subst hN;intro w vs FA UA ha m j o;obtain⟨blk,FS,US,hr,hF,hU⟩:=Q5 (N:=fn.ntmps) ha m j o (A:=P2.none) (fz:=none) trivial (λb hb=>by cases hb);refine calls_of_wp hf hb (wp_mono (h _ _ _ _ _ _ _ _ hr hF hU) ?_);rintro e a w' ⟨E,blk',FS',US',⟨he,t,r,h1,h2,h3,h4⟩,k3,h5,h6⟩;obtain⟨u,ad,d,p⟩:=JP k3 h2;have s:ad=⟨blk' r,0,none⟩:=by
  cases r with
  |slot n=>cases h3
  |hand=>cases h3
  |box n=>simp only [pa]at d;injection d with d;rw [<-d];simp [Addr.add]
  |ext n=>simp only [pa]at d;injection d with d;rw [<-d];simp [Addr.add]
 obtain⟨g,T,F3,b2,b3,b4⟩:∃g T F3,w'.heap[blk' r]?=some (.cells g T (0,0))/\B4 w' cells g.toList F3 (US' r)/\FS' r=blk' r::F3:=by
  rcases k3.box r h3 with⟨q,_⟩|⟨cs,g,T,F3,q1,q2,q3,q4⟩
  ·rw [h4]at q;cases q
  rw [h4]at q1
  injection q1 with q1
  subst q1;exact⟨g,T,F3,q2,q3,q4⟩
 have hne':cells≠ []:=by rintro rfl;cases l
 have k:(fn.results.toList.mapM (Nv P a.tmps)).run P w'= .ok [a.eval (.tmp t)] w':=by
  rw [h1,List.mapM_cons];simp [Nv,Act.eval]
 have i:a.defers=[]/\∃v,(results fn a.tmps).run P w'= .ok v w'/\∃v' F U G V,Ending.returned v= .returned v'/\tQ w w' FA UA (.tup []) [.ext cells] [v'] (.tuple #[]) F U G V:=by
  refine⟨k3.nodef,_,MZ k,a.eval (.tmp t),[],[],FS' r,US' r,by simp,?_⟩
  exact{
   res:=by simp only [Vk];exact⟨[],rfl,by simp [Oi]⟩
   fin:=⟨_,[],FS' r,[],US' r,[],rfl,by simp,by simp,⟨blk' r,g,T,F3,by rw [p,s],b2,b3,b4,hne'⟩,⟨rfl,rfl,rfl⟩⟩
   nodup:=by simpa using k3.nodup r
   dis:=λb hb hb'=>k3.disU r r b (by simpa using hb) (by simpa using hb')
   inF:=λb hb=>k3.inF r b (by simpa using hb)
   inU:=λb hb=>k3.inU r b (by simpa using hb)
   os:=k3.os
   tape:=k3.tape
   output:=k3.output
   size:=k3.size
   keep:=λb hb hF=>k3.keep b hb hF (λe=>by cases e)}
 rcases he with rfl|rfl
 ·exact i
 exact i
section
variable {w0:Base} {a:Act}
theorem s8 {f:FuncId} {l:List (Bool×TypeId×Operand)} {ss:List (Option SV)} {K:Act->World->Prop} {Q:Exit->Act->World->Prop} (h:CM w0 FA UA N w a E blk FS US) (hF:FS .hand=[]) (hU:US .hand=[]) {o:Oper} {args:Array Operand} {tys:Array TypeId} (ho:o.op= .call {callee:= .value (.func f),args:=args,argTypes:=tys}) (hf:Yp P f) (hd:o.dst=some d) (hN:d<N) (hl:l.map (λx=>x.2.2)=args.toList) {i:List TV} (hg:cY P f as i) {c:Bool} (h1:L5 P E l=some (ss,E1)) (h2:IC P E1 l ss=some (as,c)) (h3:c=true\/AI i=false) (hK:∀w' v blk' FS' US',CM w0 FA UA N w' (a.put (some d) v) (E1.newBox d i) blk' FS' US'->FS' .hand=[]->US' .hand=[]->K (a.put (some d) v) w'):o.wp P a w K Q:=by
 obtain⟨FS1,US1,F,U,k1,k2,k3,k4,_⟩:=OH h h1;rw [hF,A5]at k3;rw [hU,A5]at k4;obtain⟨U',k5,k6⟩:=Kl k2 k1 h2;have a0:l.map (λx=>a.eval x.2.2)=(args.map a.eval).toList:=by
  rw [Od,<-hl,Fg];rfl
 rw [a0]at k5;have p:∀b∈F,b∉U':=by
  intro b hb hb';rw [<-k3]at hb
  rcases k6 b hb' with h4|⟨r,h4⟩|⟨_,r,h5,h4⟩
  ·rw [<-k4]at h4;exact k2.disU .hand .hand b hb h4
  ·exact k2.disU .hand r b hb h4
  exact k2.dis .hand r (EL h5) b hb h4
 have k:=hg w _ F U' k5 (by rw [<-k3];exact k2.nodup .hand) p (by
  intro b hb
  rcases Ai.1 hb with hb|hb
  ·exact(k2.inF .hand b (by rw [k3];exact hb)).2
  rcases k6 b hb with h4|⟨r,h4⟩|⟨_,r,h5,h4⟩
  ·exact(k2.inU .hand b (by rw [k4];exact h4)).2
  ·exact(k2.inU r b h4).2
  exact(k2.inF r b h4).2)
 unfold Oper.wp;rw [HT ho hf];simp only [Oper.upon];rw [Ps]at k;refine Calls.mono k ?_;rintro e w' ⟨v,Fr,Ur,G,V,rfl,g⟩;obtain⟨v0,vs0,G1,G2,V1,V2,t,rfl,rfl,⟨b0,a1,T,F0,rfl,e1,e2,rfl,e3⟩,⟨rfl,rfl,rfl⟩⟩:=g.fin
 injection t with t _
 subst t;have y:=g.res;simp only [Vk,Oi]at y;obtain⟨_,_,_,rfl,rfl⟩:=y;have z:=g.nodup;simp only [A5,A0]at z;have a2:∀b∈b0::F0,(b∈FS1 .hand\/w.heap.size<=b)/\b<w'.heap.size:=by
  intro b hb;have:=g.inF b (by simpa using hb);rw [k3];exact this
 have h0:∀b∈V1,(∃s,b∈US1 s)\/((b∈FS1 .hand\/w.heap.size<=b)/\b∉b0::F0/\b<w'.heap.size):=by
  intro b hb;obtain⟨h4,h5⟩:=g.inU b (by simpa using hb)
  have m:b∉b0::F0:=λe=>g.dis b (by simpa using e) (by simpa using hb)
  rcases h4 with h4|h4|h4
  ·rcases k6 b h4 with h6|h6|⟨h6,r,h7,h8⟩
   ·exact .inl ⟨.hand,by rw [k4];exact h6⟩
   ·exact .inl h6
   rcases h3 with h3|h3
   ·rw [h3]at h6;cases h6
   have:=JO e2 h3;subst this;cases hb
  ·exact .inr ⟨.inl (by rw [k3];exact h4),m,h5⟩
  exact .inr ⟨.inr h4,m,h5⟩
 have j:∀b,b<w.heap.size->b∉FS1 .hand->w'.heap[b]?=w.heap[b]? :=λb hb u=>g.keep b hb (by rw [<-k3];exact u)
 let E2:St:={E1 with boxes:=Cn E1.boxes (.box d) (some i),ver:=Cn E1.ver (.box d) (E1.ver (.box d)+1),gen:=Cn E1.gen (.box d) (E1.gen (.box d)+1)}
 let blk1:=Cn blk (.box d) b0
 have a3:Root.box d≠Root.hand:=by simp
 have a4:∀s,Cr w w' a a E1 E2 blk blk1 s:=by
  intro s;by_cases hs:s= .box d
  ·subst hs;exact⟨.inl (by simp [E2,Cn]),.inl (by simp [E2,Cn])⟩
  have hv:E2.ver s=E1.ver s:=by simp [E2,Cn,hs]
  have hg:E2.gen s=E1.gen s:=by simp [E2,Cn,hs]
  by_cases hh:s= .hand
  ·subst hh;exact FC hv hg (by simp [St.root,k2.nohand])
  refine DS k2 hv hg ?_ (λ_ _=>rfl) (λ_=>by simp [blk1,Cn,hs]) (λb hb=>j b (k2.inF s b hb).2 (k2.dis s .hand hh b hb)) (λb hb=>j b (k2.inU s b hb).2 (λe=>k2.disU .hand s b e hb));cases s<;>simp_all [E2,St.root,Cn]
 have g1:=k2.two (w':=w') (a':=a) (E':=E2) (blk':=blk1) (r1:= .box d) (r2:= .hand) (L1:=b0::F0) (L2:=[]) (V1:=V1) (V2:=[]) a3
  (by simpa using z)
  (λb hb=>by
   have hb':b∈b0::F0:=by simpa using hb
   obtain⟨q1,q2⟩:=a2 b hb'
   exact⟨.inr q1,q2⟩)
  (λb hb=>by
   have hb':b∈V1:=by simpa using hb
   rcases h0 b hb' with q|⟨q1,q2,q3⟩
   ·exact .inl q
   exact .inr ⟨.inr q1,by simpa using q2,q3⟩)
  g.size g.os g.tape g.output (λb hb _ u=>j b hb u) a4
  (λn _ _=>⟨rfl,rfl⟩)
  (λs _ hs _=>⟨by simp [E2,Cn,hs],by simp [blk1,Cn,hs]⟩)
  (.inr ⟨i,a1,T,F0,by simp [E2,Cn],by simp [blk1,Cn,e1],e2,by simp [blk1,Cn]⟩)
  trivial (by simp [E2,Cn,k2.nohand]) k2.len k2.nodef (hfz:=λn hn=>k2.frz n hn)
 have a5:Ep w' a E2 blk1 (.one (.ptr (.box d) (E2.gen (.box d)) [] 0)) (.pointer (some ⟨b0,0,none⟩)) [] []:=by
  have h9:E2.stamp (.box d) []=E2.gen (.box d):=rfl;rw [<-h9];refine SS ?_ ?_
  ·cases hc:i with
   |nil=>exact absurd hc e3
   |cons x xs=>simp [St.place,St.root,E2,Cn,BZ,hc]
  simp [pa,blk1,Cn,Addr.add]
 have g2:=g1.put (d:=d) hN a5 XB.none;have:=hK w' _ blk1 _ _ g2 (by rw [Bu (by simp),BT]) (by rw [Bu (by simp),BT]);rw [hd];exact this
end
theorem AAO {l:List AV} {x:Option α} (h:x.bind kk=some r) {f:α->List TV} (g:∀v,x=some v->cY P (NV (oA ops i)) l (f v)) (hk:∀v,x=some v->kk v=some r->RW P N ops (i+1) ((uA P E (oA ops i) 0).newBox ((oA ops i).dst.getD 0) (f v)) Q) (b:XI P E (oA ops i) 0=some l:=by kernel_rfl) (hc:tY P E (oA ops i) 0=true:=by kernel_rfl) (ho:(P7 P ops E i&&Ru P N (oA ops i)&&FQ N (oA ops i))=true:=by kernel_rfl):RW P N ops i E Q:=by
 obtain⟨v,hv,h⟩:=Ar.1 h;simp only [Al]at ho;obtain⟨h1,h2⟩:=H5 ho.1.1;obtain⟨args,tys,h3,h4,h5,h6⟩:=Nm ho.1.2;obtain⟨d,h7,_,h8⟩:=E4 ho.2;have e:=hk v hv h;rw [h7]at e;simp only [Bw]at e;unfold RW;rw [Gp h1];intro w0 FA UA w a blk FS US hr hF hU;simp only [wpList,Co hr h2,BX];unfold XI tY shA at*;unfold uA at e
 cases hm:mvA P E (oA ops i) 0 with
 |none=>rw [hm]at b;cases b
 |some z=>
  obtain⟨ss,E1⟩:=z;rw [hm]at b hc e;simp only at b hc e
  cases hs:IC P E1 (bits 0 (Gc (oA ops i))) ss with
  |none=>rw [hs]at b;cases b
  |some y=>
   obtain⟨as',c⟩:=y;rw [hs]at b hc;simp only [B5]at b hc
   injection b with b
   subst b;refine .inl (s8 hr hF hU h3 h4 h7 h8 (l:=bits 0 (Gc (oA ops i))) (by rw [NX,h6]) (g v hv) hm hs (.inl hc) λw' v' blk' FS' US' k1 k2 k3=>e _ _ _ _ _ _ _ _ k1 k2 k3)
theorem rsp {rs:List ResultVar} {a:List TV} (t:Nat) (h1:rs=[.tmp t]) (h:(match E.ptr? (.tmp t)with
  |some (r,[],0)=>bif r.mem then E.boxes r else none
  |_=>none)=some a):∃t r,rs=[.tmp t]/\E.ptr? (.tmp t)=some (r,[],0)/\r.mem=true/\E.boxes r=some a:=by
 split at h
 ·rename_i r hr
  cases hm:r.mem with
  |false=>rw [hm]at h;cases h
  |true=>rw [hm]at h;exact⟨t,r,h1,hr,hm,h⟩
 cases h
def zZ (N:Nat) (E:St) (o:Oper):Option St:=match o.op,o.dst with
 | .extract t ix,some d=>bif Nat.blt d N then MA E d t ix else none
 |_,_=>none
theorem yG {w0:Base} {a:Act} (h:CM w0 FA UA N w a E blk FS US) (hF:FS .hand=[]) (hU:US .hand=[]) {o:Oper} (he:zZ N E o=some E'):
  ∃v blk' FS' US',(∀w2,(execOp a.eval o).run P w2= .ok (.value v) w2)/\CM w0 FA UA N w (a.put o.dst v) E' blk' FS' US'/\FS' .hand=[]/\US' .hand=[]:=by
 unfold zZ at he;split at he
 ·rename_i t ix d ho hd
  cases hN:Nat.blt d N with
  |false=>rw [hN]at he;cases he
  |true=>
   rw [hN]at he;simp only [Af]at he;have hN':d<N:=by simpa [Bn]using hN
   obtain⟨nx,w',v,blk',FS',US',k1,k2,k3,k4,k5,_⟩:=Ex.extract (P:=P) h hF hU ho hd hN' he;have b:∃x,∀w2,(execOp a.eval o).run P w2= .ok (.value x) w2:=by
    unfold MA at he;split at he
    ·rename_i n;split at he
     ·rename_i ss c;split at he
      ·rename_i s e;have hs:=h.slot n;rw [c]at hs;simp only [Ep]at hs;obtain⟨vs,f,hx⟩:=hs;obtain⟨v,A,B,C,D,F1,U1,h1,h2,h3,h4,h5⟩:=Wh ix hx e;exact⟨v,λw2=>by simp [execOp,ho,Instr.extract,f,h1]⟩
      cases he
     cases he
    cases he
   obtain⟨x,hx⟩:=b;rw [hx w]at k1
   injection k1 with q1 q2
   subst q1 q2
   rcases k2 with k2|⟨k2,_⟩
   ·injection k2 with k2
    subst k2;exact⟨_,blk',FS',US',hx,k3,k4,k5⟩
   cases k2
 cases he
theorem Ob {ts:List Nat} (i:Nat) (h:KW P N ops ts (i::dn) ((zZ N E (oA ops i)).getD E) Q) (hs:(zZ N E (oA ops i)).isSome=true:=by kernel_rfl) (hk:(P7 P ops E i&&gT ops ts dn i)=true:=by kernel_rfl):KW P N ops ts dn E Q:=by
 have hs':=getD_some (a:=E) hs;generalize hE:(zZ N E (oA ops i)).getD E=E' at h hs';simp only [Al,gT]at hk;obtain⟨h1,h3,h4⟩:=hk;obtain⟨h5,h6⟩:=H5 h1;unfold KW at h⊢;rw [Tf (i:=i) h3];intro hQ hc w0 FA UA w a blk FS US k1 k2 k3;obtain⟨e1,e2,e3,e4,e5⟩:=Tr h4;obtain⟨v,blk',FS',US',g1,g2,g3,g4⟩:=yG (P:=P) k1 k2 k3 hs';refine LE (v:=v) (n:=ops.size) (Iw h5) (Region.noSelect_spec e1) (λc a w hx=>?_) e4 e5 _ _ a w hc (Region.free_spec (Iw h5) e2) e3 (.inl ⟨Co k1 h6,λw2 _=>g1 w2⟩) ?_
 ·obtain⟨E',blk',FS',US',m1,_⟩:=hx;exact(hQ c E' m1).elim
 exact h hQ (K6 hc e3) _ _ _ _ _ _ _ _ g2 g3 g4
def cU (P:Program) (E:St) (o:Oper) (s:SV):Prop:=∀(N:Nat) (w0:Base) (FA UA:List Nat) (w:World) (a:Act) (blk:Root->Nat) (FS US:Root->List Nat),CM w0 FA UA N w a E blk FS US->EP P w a E blk FS US o s
theorem ABw (hp:cU P E (oA ops i) s) (h:RW P N ops (i+1) (E.put (oA ops i).dst s) Q) (hk:(P7 P ops E i&&FQ N (oA ops i))=true:=by kernel_rfl):RW P N ops i E Q:=by
 rw [Al]at hk;obtain⟨h1,h2⟩:=H5 hk.1;obtain⟨d,h3,_,h4⟩:=E4 hk.2;rw [h3]at h;unfold RW;rw [Gp h1];intro w0 FA UA w a blk FS US hr hF hU;simp only [wpList,Co hr h2,BX];exact .inl ((KA hr hF hU (hp _ _ _ _ _ _ _ _ _ hr) h3 h4).wp λw' v blk' FS' US' k1 k2 k3 _=>h _ _ _ _ _ _ _ _ k1 k2 k3)
theorem AB2 (hp:cU P E (oA ops i) s) (h:SW P N ops m (i+1) (E.put (oA ops i).dst s) K) (hk:(P7 P ops E i&&FQ N (oA ops i)&&Nat.blt i m)=true:=by kernel_rfl):SW P N ops m i E K:=by
 simp only [Al]at hk;obtain⟨h1,h2⟩:=H5 hk.1.1;obtain⟨d,h3,_,h4⟩:=E4 hk.1.2;rw [h3]at h;unfold SW;rw [Pe h1 hk.2];intro w0 FA UA w a blk FS US k1 k2 k3;obtain⟨v,U,g1,g2,g3⟩:=hp _ _ _ _ _ _ _ _ _ k1;have hr:=g1 w (λr _=>⟨λ_ _=>rfl,λ_ _=>rfl⟩);simp only [wpStill,Co k1 h2,BX,Oper.still,hr,Oper.stillUpon_value];rw [h3];refine h _ _ _ _ _ _ _ _ (k1.put h4 g2 (NS k1 g3 _)) ?_ ?_
 ·rw [Bu (by simp),k2]
 rw [Bu (by simp),k3]
theorem AB3 {ts:List Nat} (i:Nat) (hp:cU P E (oA ops i) s) (h:KW P N ops ts (i::dn) (E.put (oA ops i).dst s) Q) (hk:(P7 P ops E i&&FQ N (oA ops i)&&gT ops ts dn i)=true:=by kernel_rfl):KW P N ops ts dn E Q:=by
 simp only [Al,gT]at hk;obtain⟨⟨h1,h2⟩,h3,h4⟩:=hk;obtain⟨h5,h6⟩:=H5 h1;obtain⟨d,h7,_,h8⟩:=E4 h2;unfold KW at h⊢;rw [Tf (i:=i) h3];rw [h7]at h;intro hQ hc w0 FA UA w a blk FS US k1 k2 k3;obtain⟨e1,e2,e3,e4,e5⟩:=Tr h4;obtain⟨v,U,g1,g2,g3⟩:=hp _ _ _ _ _ _ _ _ _ k1;refine LE (v:=v) (n:=ops.size) (Iw h5) (Region.noSelect_spec e1) (λc a w hx=>?_) e4 e5 _ _ a w hc (Region.free_spec (Iw h5) e2) e3 (.inl ⟨Co k1 h6,λw2 e=>?_⟩) ?_
 ·obtain⟨E',blk',FS',US',m1,_⟩:=hx;exact(hQ c E' m1).elim
 ·exact g1 w2 (λr hr=>⟨λb hb=>e.2 b (k1.inF r b hb).2,λb hb=>e.2 b (k1.inU r b hb).2⟩)
 rw [h7];refine h hQ (K6 hc e3) _ _ _ _ _ _ _ _ (k1.put h8 g2 (NS k1 g3 _)) ?_ ?_
 ·rw [Bu (by simp),k2]
 rw [Bu (by simp),k3]
def AAz (o:Oper):Bool:=match o.op with
 | .assign (.const _)| .move (.const _)=>true
 |_=>false
theorem pjk {o:Oper} (h:AAz o=true:=by kernel_rfl):cU P E o (.one .junk):=by
 intro N w0 FA UA w a blk FS US hr;unfold AAz at h;split at h
 ·rename_i v ho;exact⟨v,[],λw2 _=>by simp [execOp,ho,Act.eval],by simp [Ep,CS,TV.isJunk],by simp⟩
 ·rename_i v ho;exact⟨v,[],λw2 _=>by simp [execOp,ho,Act.eval],by simp [Ep,CS,TV.isJunk],by simp⟩
 cases h
abbrev pb (n:Nat):SV:= .one (.ptr (.box n) 0 [] 0)
abbrev px (n:Nat):SV:= .one (.ptr (.ext n) 0 [] 0)
abbrev i6 (n:Int):TV:= .int .i64 n
abbrev tb (b:Bool):TV:= .bool b
abbrev ts (s:ByteArray):TV:= .str s
abbrev rg (n:Nat):List AV:=List.replicate n .gone
theorem jr {w:β} {f:V->Option β} {a:V⊕β} (h:some (.inr w)=some a) (hk:Sum.elim f some a=some r):some w=some r:=by
 injection h with h
 subst h;exact hk
theorem jo {S:Type} {w:β} {f:V->Option β} {o:S⊕(V⊕β)} (h:some (.inr (.inr w))=some o) (hk:∀w,o= .inr (.inr w)->Sum.elim f some (.inr w)=some r):some w=some r:=by
 injection h with h
 exact hk w h.symm
theorem rr {v r:β} (h:some v=some r):v=r:=Option.some.inj h
theorem rq {e:Exit} {rs:List ResultVar} {a:SV} (he:e= .normal\/e= .ret:=by first|exact .inr rfl|exact .inl rfl) (hk:(DO P E rs).map (λz=>Ev z.1)=some a:=by kernel_rfl):(e= .normal\/e= .ret)/\∃ss E',DO P E rs=some (ss,E')/\Ev ss=a:=⟨he,rsz hk⟩
theorem rx {e:Exit} {rs:List ResultVar} {b:SV} {a:List TV} (he:e= .normal\/e= .ret:=by first|exact .inr rfl|exact .inl rfl) (hk:(DO P E rs).map (λz=>(Ev z.1,z.2.boxes (.ext 0)))=some (b,some a):=by kernel_rfl):(e= .normal\/e= .ret)/\∃ss E',DO P E rs=some (ss,E')/\Ev ss=b/\E'.boxes (.ext 0)=some a:=⟨he,rsx hk⟩
section
variable {id:Nat}
theorem ws {y:Code} (h:RW P N ops 0 E (Pu (λE'=>Wp P N y E' Q) Q)):Wp P N (.seq (.region id ops false) y) E Q:=Wp.seq (yE h)
end
theorem C3 (hf:∀x,(f x).length=sz) (h:(gi l n).bind kk=some r) (hk:∀x,gi l n=some x->kk x=some r->RW P N ops (i+1) (E.put (oA ops i).dst (fA E (oA ops i) (n.toNat*sz+0))) Q) (hc:rZ P E (oA ops i) sz=some (AR f l,n):=by kernel_rfl) (hq:qN P N ops i E=true:=by kernel_rfl):RW P N ops i E Q:=
 bd h λx gx h=>RW.q (Ja hf gx hc) (hk x gx h) hq
def kY (P:Program) (N:Nat) (ops:Array Oper) (ts dn:List Nat) (E:St) (i:Nat):Option St:=bif Nat.blt i ops.size&&FQ N (oA ops i)&&gT ops ts dn i then
 (match BE P ops E (oA ops i)with
 |some false=>some (E.put (oA ops i).dst (.tup []))
 |some true=>match IU P E (oA ops i)with
  |some s=>some (E.put (oA ops i).dst s)
  |none=>zZ N E (oA ops i)
 |none=>none)else none
theorem tst {ts:List Nat} (hs:kY P N ops ts dn E i=some E') (h:KW P N ops ts (i::dn) E' Q):KW P N ops ts dn E Q:=by
 unfold kY at hs
 cases hb:(Nat.blt i ops.size&&FQ N (oA ops i)&&gT ops ts dn i)with
 |false=>rw [hb]at hs;cases hs
 |true=>
  rw [hb]at hs;simp only [Af]at hs;split at hs
  ·rename_i hg
   injection hs with hs
   subst hs;exact AAQ i h hg hb
  ·rename_i hg;simp only [Al]at hb;have ho:P7 P ops E i=true:=by simp only [P7,hb.1.1,hg,HF]
   split at hs
   ·rename_i s a
    injection hs with hs
    subst hs;exact zX i a h (by rw [ho,hb.1.2,hb.2];rfl)
   exact Ob i (by rw [hs];exact h) (by rw [hs];rfl) (by rw [ho,hb.2];rfl)
  cases hs
def mR (P:Program) (N:Nat) (ops:Array Oper) (ts dn:List Nat) (E:St):List Nat->Option (Nat×St)
 |[]=>none
 |i::l=>match kY P N ops ts dn E i with
  |some E'=>some (i,E')
  |none=>mR P N ops ts dn E l
theorem fL {ts:List Nat}:∀{l:List Nat} {E':St},mR P N ops ts dn E l=some (i,E')->kY P N ops ts dn E i=some E'
 |[],_,h=>by cases h
 |j::l,E',h=>by
  simp only [mR]at h;split at h
  ·rename_i E1 h1
   injection h with h
   injection h with h2 h3
   subst h2 h3;exact h1
  exact fL h
def yC (P:Program) (N:Nat) (ops:Array Oper) (ts:List Nat) (mv:List Nat) (E:St) (i:Nat):Option St:=bif P7 P ops E i&&(kp (oA ops i)||ts.contains i)then C4 P N (mv.contains i) E (oA ops i)else none
def wM (f:A->Option (List St)):List A->Option (List St)
 |[]=>some []
 |x::l=>match f x,wM f l with
  |some a,some b=>some (a++b)
  |_,_=>none
theorem f9 {f:A->Option (List St)}:∀{l:List A} {L:List St},wM f l=some L->∀x∈l,∃a,f x=some a/\∀E∈a,E∈L
 |[],_,_,x,hx=>by cases hx
 |y::l,L,h,x,hx=>by
  simp only [wM]at h;split at h
  ·rename_i a b h1 h2
   injection h with h
   subst h
   rcases BB.1 hx with rfl|hx
   ·exact⟨a,h1,λE hE=>A8 _ hE⟩
   obtain⟨a',h3,h4⟩:=f9 h2 x hx;exact⟨a',h3,λE hE=>AK _ (h4 E hE)⟩
  cases h
def nR (P:Program) (N:Nat) (ops:Array Oper) (ts mv:List Nat):Nat->List Nat->St->Option (List St)
 |0,_,_=>none
 |n+1,dn,E=>match Region.ready .any ops (y9 ops.size dn)with
  |[]=>some [E]
  |rs=>bif Nat.blt dn.length ops.size then(match mR P N ops ts dn E rs with
   |some (i,E')=>nR P N ops ts mv n (i::dn) E'
   |none=>wM (λi=>match yC P N ops ts mv E i with
    |some E'=>nR P N ops ts mv n (i::dn) E'
    |none=>none) rs)else none
theorem kN {ts:List Nat} {mv:List Nat}:∀{n:Nat} {dn:List Nat} {E:St} {L:List St},nR P N ops ts mv n dn E=some L->(∀E'∈L,Q .normal E')->KW P N ops ts dn E Q
 |0,_,_,_,h,_=>by cases h
 |n+1,dn,E,L,h,hq=>by
  simp only [nR]at h;split at h
  ·rename_i hr
   injection h with h
   subst h;exact AW (hq E (by simp)) (by rw [hr];rfl)
  rename_i b
  cases hb:Nat.blt dn.length ops.size with
  |false=>rw [hb]at h;cases h
  |true=>
   rw [hb]at h;simp only [Af]at h;split at h
   ·rename_i i E' hf;exact tst (fL hf) (kN h hq)
   refine KW.all _ (λi hi=>?_) b (by simp only [pC,hb,dD,beq_self_eq_true]);obtain⟨a,h1,h2⟩:=f9 h i hi;split at h1
   ·rename_i E' hs;unfold yC at hs
    cases hc:(P7 P ops E i&&(kp (oA ops i)||ts.contains i))with
    |false=>rw [hc]at hs;cases hs
    |true=>
     rw [hc]at hs;exact Gh hs (kN h1 λE'' hE=>hq E'' (h2 E'' hE)) hc
   cases h1
def qW (P:Program) (N:Nat) (ops:Array Oper) (ts mv dn:List Nat) (E:St):List St:=(nR P N ops ts mv (ops.size+1) dn E).getD []
theorem nP {X:Prop} {c:List PanicEntry} (h:(Exit.panic c= .normal\/Exit.panic c= .ret)/\X):False:=by rcases h with⟨h|h,_⟩<;>cases h
section
variable {w0:Base} {a:Act}
theorem CM.resay (h:CM w0 FA UA N w a E blk FS US) (hd:d<N) (hs:Ep w a E blk s (a.eval (.tmp d)) [] []):∃FS' US',CM w0 FA UA N w a (E.put (some d) s) blk FS' US'/\FS' .hand=FS .hand/\US' .hand=US .hand:=by
 have k:=h.put (F:=[]) (U:=[]) hd hs XB.none;have e:a.put (some d) (a.eval (.tmp d))=a:=by
  cases a with
  |mk tmps defers=>
   have hl:d<tmps.size:=Bb hd h.len;simp only [Act.put,Act.eval];congr 1;apply Array.ext (by simp);intro i h1 h2;rw [Array.getElem_setIfInBounds];split
   ·rename_i e;subst e;simp [hl]
   rfl
 rw [e]at k;exact⟨_,_,k,Bu (by simp),Bu (by simp)⟩
end
theorem CM.toAdr {w0:Base} {a:Act} (h:CM w0 FA UA N w a E blk FS US) (hd:d<N) (hs:E.ptr? (.tmp d)=some (.ext 0,[],0)) (hp:E.amb.pin=some b):∃FS' US',CM w0 FA UA N w a (E.put (some d) (.one (.adr ⟨b,0,none⟩))) blk FS' US'/\FS' .hand=FS .hand/\US' .hand=US .hand:=by
 obtain⟨_,ad,h1,h2⟩:=JP h hs;refine h.resay hd ?_;rw [h2];have e:=h.xblk 0;rw [h.pin b hp]at e;simp only [pa,e,Addr.add]at h1
 injection h1 with h1
 subst h1;refine⟨?_,λ_=>rfl⟩;show Cz w (.adr ⟨b,0,none⟩) _ [] [];simp [Cz]
section
variable {w0:Base} {a:Act}
theorem CM.toPtr (h:CM w0 FA UA N w a E blk FS US) (hd:d<N) (hs:E.slots d= .one (.adr ⟨b,0,none⟩)) (hp:E.amb.pin=some b) {f:List TV} (hb:E.boxes (.ext 0)=some f) (g:f.isEmpty=false):
  ∃FS' US',CM w0 FA UA N w a (E.put (some d) (.one (.ptr (.ext 0) (E.gen (.ext 0)) [] 0))) blk FS' US'/\FS' .hand=FS .hand/\US' .hand=US .hand:=by
 have hv:a.eval (.tmp d)= .pointer (some ⟨b,0,none⟩):=by
  have:=h.slot d;rw [hs]at this;simp only [Ep,CS,Cz]at this;exact this.1.1
 refine h.resay hd ?_;have e:=h.xblk 0;rw [h.pin b hp]at e;refine⟨⟨rfl,rfl,A3 _,λ_=>⟨?_,⟨b,0,none⟩,?_,hv⟩⟩,λ_=>by rw [hv];rfl⟩
 ·cases f with
  |nil=>cases g
  |cons c cs=>simp [St.place,St.root,hb,BZ]
 simp [pa,e,Addr.add]
end
def pnE (E:St) (d b:Nat):St:=E.put (some d) (.one (.adr ⟨b,0,none⟩))
def yT (N:Nat) (E:St) (d:Nat):Bool:=Nat.blt d N&&(match E.ptr? (.tmp d)with
 |some (.ext 0,[],0)=>true
 |_=>false)
theorem uY (h:yT N E d=true):d<N/\E.ptr? (.tmp d)=some (.ext 0,[],0):=by
 simp only [yT,Al]at h;refine⟨by simpa [Bn]using h.1,?_⟩;have h2:=h.2;split at h2
 ·assumption
 cases h2
theorem AAM (d:Nat) (h:RW P N ops i (pnE E d b) Q) (hp:E.amb.pin=some b:=by kernel_rfl) (ho:yT N E d=true:=by kernel_rfl):RW P N ops i E Q:=by
 intro w0 FA UA w a blk FS US hr hF hU;obtain⟨h1,h2⟩:=uY ho;obtain⟨FS',US',k1,k2,k3⟩:=hr.toAdr h1 h2 hp;exact h _ _ _ _ _ _ _ _ k1 (by rw [k2,hF]) (by rw [k3,hU])
def npE (E:St) (d:Nat):St:=E.put (some d) (.one (.ptr (.ext 0) (E.gen (.ext 0)) [] 0))
def vJ (N:Nat) (E:St) (d:Nat):Bool:=Nat.blt d N&&(match E.boxes (.ext 0)with
 |some cells=>!cells.isEmpty
 |none=>false)
theorem mE (h:vJ N E d=true):d<N/\∃a,E.boxes (.ext 0)=some a/\a.isEmpty=false:=by
 simp only [vJ,Al]at h;refine⟨by simpa [Bn]using h.1,?_⟩;have h2:=h.2;split at h2
 ·rename_i a hc;exact⟨a,hc,by simpa using h2⟩
 cases h2
theorem gH (d:Nat) (h:RW P N ops i (npE E d) Q) (hp:E.amb.pin=some b:=by kernel_rfl) (hs:E.slots d= .one (.adr ⟨b,0,none⟩):=by kernel_rfl) (ho:vJ N E d=true:=by kernel_rfl):RW P N ops i E Q:=by
 intro w0 FA UA w a blk FS US hr hF hU;obtain⟨h1,c,h2,h3⟩:=mE ho;obtain⟨FS',US',k1,k2,k3⟩:=hr.toPtr h1 hs hp h2 h3;exact h _ _ _ _ _ _ _ _ k1 (by rw [k2,hF]) (by rw [k3,hU])
theorem m8 {ts:List Nat} (d:Nat) (h:KW P N ops ts dn (npE E d) Q) (hp:E.amb.pin=some b:=by kernel_rfl) (hs:E.slots d= .one (.adr ⟨b,0,none⟩):=by kernel_rfl) (ho:vJ N E d=true:=by kernel_rfl):KW P N ops ts dn E Q:=by
 intro hq hc w0 FA UA w a blk FS US hr hF hU;obtain⟨h1,c,h2,h3⟩:=mE ho;obtain⟨FS',US',k1,k2,k3⟩:=hr.toPtr h1 hs hp h2 h3;exact h hq hc _ _ _ _ _ _ _ _ k1 (by rw [k2,hF]) (by rw [k3,hU])
structure Us (n c b g cap:Nat) (e T T':TypeId) (sz:Nat) (rest:List Value) (enc:γ->List TV) (w:World) (l:List γ):Prop where
 ne:b≠g/\c≠g/\c≠b
 len:l.length=n
 ptr:w.heap[c]?=some (.cells #[.pointer (some ⟨b,0,none⟩)] T' (0,0))
 box:w.heap[b]?=some (.cells (.slice (some ⟨g,0,none⟩) n cap::rest).toArray T (0,0))
 row:∃cur,w.heap[g]?=some (.cells cur e (0,0))/\cur.size=cap*sz/\cur.toList.take (l.length*sz)=(AR enc l).map TV.val
 le:l.length<=cap/\cap<=maxLen
theorem lI {l:List γ} {k:Nat} {n c b g cap:Nat} {e T T':TypeId} {rest:List Value} {enc:γ->List TV} (h:Us n c b g cap e T T' sz rest enc w l) (hk:k<l.length*sz):w.cell? ⟨g,k,none⟩=((AR enc l).map TV.val)[k]? :=by
 obtain⟨a,h1,h2,h3⟩:=h.row;rw [<-h3,Cb,Au hk];simp [World.cell?,h1]
def HA (n c b g cap:Nat) (e T T':TypeId) (sz:Nat) (rest:List Value) (enc:γ->List TV) (l:List γ):P2 where
 B:=[c,b,g]
 I:=λw=>Us n c b g cap e T T' sz rest enc w l
 st:=λw w' h hk=>⟨h.ne,h.len,by rw [hk c (by simp)];exact h.ptr,by rw [hk b (by simp)];exact h.box,by rw [hk g (by simp)];exact h.row,h.le⟩
 rd:=λad=>if ad.spot.isSome=true then none else if ad.block=c then(if ad.off=0 then some (.pointer (some ⟨b,0,none⟩))else none)else if ad.block=b then(if ad.off=0 then some (.slice (some ⟨g,0,none⟩) n cap)else none)else if ad.block=g then(if ad.off<l.length*sz then((AR enc l).map TV.val)[ad.off]? else none)else none
 rdI:=λw ad v h hr=>by
  obtain⟨bl,off,spot⟩:=ad
  cases spot with
  |some s=>simp at hr
  |none=>
   simp only [GM,BP,Ga]at hr;split at hr
   ·rename_i hb;subst hb;split at hr
    ·rename_i ho;subst ho
     injection hr with hr
     subst hr;simp [World.cell?,h.ptr]
    cases hr
   split at hr
   ·rename_i hb;subst hb;split at hr
    ·rename_i ho;subst ho
     injection hr with hr
     subst hr;simp [World.cell?,h.box]
    cases hr
   split at hr
   ·rename_i hg;subst hg;split at hr
    ·rename_i ho;rw [lI h ho];exact hr
    cases hr
   cases hr
theorem dJ {ie:TypeInfo} {c b g cap:Nat} {e T T':TypeId} {rest:List Value} {enc:γ->List TV} (h:∀x,(enc x).length=sz) (n:Nat) (gS:Bool) (hx:∀args W,(callFunc sf args).run P W=((Extern.ReflectliteSwapper.swap gS args).run P W).andThen λv w'=> .ok (.value v) w') (a3:P.info? e=some ie) (o:ie.size=sz) (h7:∀w,(isAgg e).run P w= .ok true w):
  L7 P (HA n c b g cap e T T' sz rest enc) sf #[.slice (some ⟨g,0,none⟩) n cap,typeHandle P e]:=by
 intro l i j x y hi hj w hI hB;obtain⟨⟨u,h0,h8⟩,hn,p,q,h9,h3⟩:=hI;have a4:b<w.heap.size:=hB b (by simp [HA]);have a5:c<w.heap.size:=hB c (by simp [HA]);have b3:g<w.heap.size:=hB g (by simp [HA]);obtain⟨f,hg,h4,a0⟩:=h9;obtain⟨i0,i1⟩:=If hi;obtain⟨j0,j1⟩:=If hj;obtain⟨a,rfl⟩:=CG i0;obtain⟨d,rfl⟩:=CG j0;simp only [Ba]at i1 j1;have la:=(Ag.1 i1).1;have lc:=(Ag.1 j1).1;have hX:((enc x).map TV.val).length=sz:=by rw [Be];exact h x
 have hY:((enc y).map TV.val).length=sz:=by rw [Be];exact h y
 have r:l.length*sz<=f.size:=by rw [h4];exact BC _ h3.1
 have a6:(a+1)*sz<=l.length*sz:=BC _ la;have a7:(d+1)*sz<=l.length*sz:=BC _ lc;rw [D7]at a6 a7;have hI:Us n c b g cap e T T' sz rest enc w l:=⟨⟨u,h0,h8⟩,hn,p,q,⟨f,hg,h4,a0⟩,h3⟩;have cell:∀(m:Nat) (z:γ),l[m]?=some z->∀k v,((enc z).map TV.val)[k]?=some v->w.cell? ⟨g,0+m*ie.size+k,none⟩=some v:=by
  intro m z hm k v hk;have a1:=(Ag.1 hk).1;rw [Be,h]at a1;have lm:=(Ag.1 hm).1;have a8:(m+1)*sz<=l.length*sz:=BC _ lm;rw [D7]at a8;rw [o,H6,lI hI (by omega)];have e1:(AR enc l)[m*sz+k]?=(enc z)[k]? :=by
   have h2:(AR enc l)[m*sz+k]?=((AR enc l).drop (m*sz))[k]? :=by rw [BO]
   rw [h2,J6 h l m,Bj lm,Pb];have e4:l[m]=z:=by rw [Ab lm]at hm;injection hm
   rw [e4,AO (by rw [h];exact a1)]
  rw [AN,e1,<-AN,hk]
 have frz:∀(m k:Nat),w.frozen? ⟨g,0+m*ie.size+k,none⟩=false:=by
  intro m k;simp [World.frozen?,hg]
 have s:=Go.Lib.run_swap_cells (P:=P) gS e ie a3 h7 g 0 n cap a d (by omega) (by omega) ((enc x).map TV.val) ((enc y).map TV.val) (by rw [hX,o]) (by rw [hY,o]) (λv hv=>by obtain⟨t,_,rfl⟩:=AJ.1 hv;exact V0) (λv hv=>by obtain⟨t,_,rfl⟩:=AJ.1 hv;exact V0) w (cell a x i1) (cell d y j1) (λk _=>frz a k) (λk _=>frz d k);simp only [H6,o]at s;have h1:=IQ e (0,0) g ((enc y).map TV.val) (a*sz) f w hg (by rw [hY];omega);have a9:(setRow f.toList (a*sz) ((enc y).map TV.val)).toArray.size=f.size:=by
  rw [MJ,DQ (by rw [hY];simp;omega)];simp
 have h2:=IQ e (0,0) g ((enc x).map TV.val) (d*sz) _ _ h1 (by rw [a9,hX];omega);have kB:∀k,k<w.heap.size->k≠g->((w.setCells g (a*sz) ((enc y).map TV.val)).setCells g (d*sz) ((enc x).map TV.val)).heap[k]?=w.heap[k]? :=by
  intro k hk a2;have s1:(w.setCells g (a*sz) ((enc y).map TV.val)).heap.size=w.heap.size:=FX g _ _ _;rw [World.heap_setCells_other _ g _ _ (by rw [s1];exact hk) a2,World.heap_setCells_other _ g _ _ hk a2]
 refine⟨(w.setCells g (a*sz) ((enc y).map TV.val)).setCells g (d*sz) ((enc x).map TV.val),?_,⟨?_,?_,?_,?_,?_⟩,?_⟩
 ·rw [hx];have ea:(#[Value.int .i64 (a:Int),Value.int .i64 (d:Int)]++ #[Value.slice (some ⟨g,0,none⟩) n cap,typeHandle P e])= #[.int .i64 (a:Int),.int .i64 (d:Int),.slice (some ⟨g,0,none⟩) n cap,typeHandle P e]:=rfl;rw [ea,s];rfl
 ·rw [World.os_setCells,World.os_setCells]
 ·rw [IE,IE]
 ·rw [World.output_setCells,World.output_setCells]
 ·rw [FX,FX];exact A3 _
 ·intro k hk b0;exact kB k hk (λe=>b0 (by rw [e];simp [HA]))
 have h5:(si (si l (a:Int) y) (d:Int) x).length=l.length:=by simp [si]
 have lcur:f.toList.length=f.size:=by simp
 have h6:(setRow f.toList (a*sz) ((enc y).map TV.val)).length=f.size:=by rw [DQ (by rw [hY,lcur];omega),lcur]
 have b1:(setRow (setRow f.toList (a*sz) ((enc y).map TV.val)) (d*sz) ((enc x).map TV.val)).length=f.size:=by rw [DQ (by rw [hX,h6];omega),h6]
 show Us n c b g cap e T T' sz rest enc _ (si (si l (a:Int) y) (d:Int) x);refine⟨⟨u,h0,h8⟩,h5.trans hn,by rw [kB c a5 h0];exact p,by rw [kB b a4 u];exact q,⟨_,h2,?_,?_⟩,by rw [h5];exact h3⟩
 ·rw [MJ];exact b1.trans h4
 rw [h5];show((setRow (setRow f.toList (a*sz) ((enc y).map TV.val)) (d*sz) ((enc x).map TV.val))).take (l.length*sz)=_;rw [KV (by rw [hX];omega) (by rw [h6];exact r),KV (by rw [hY];omega) (by rw [lcur];exact r),a0,<-OI,<-OI];have e1:setRow (AR enc l) (a*sz) (enc y)=AR enc (si l (a:Int) y):=by
  have:=QD h (z:=y) hi
  rwa [Ba]at this
 obtain⟨z0,b2⟩:∃z0,gi (si l (a:Int) y) (d:Int)=some z0:=by
  have lc2:d<(si l (a:Int) y).length:=by simp only [si,H0];exact lc
  refine⟨(si l (a:Int) y)[d],?_⟩;unfold gi;rw [Au (by omega),Ba];exact Ab lc2
 have e2:=QD h (z:=x) b2;rw [Ba]at e2;rw [e1,e2]
theorem lQ {l:List γ} {n c b g cap:Nat} {e T T':TypeId} {rest:List Value} {enc:γ->List TV}:(HA n c b g cap e T T' sz rest enc l).rd ⟨c,0,none⟩=some (.pointer (some ⟨b,0,none⟩)):=by
 simp [HA]
theorem lS {l:List γ} {n c b g cap:Nat} {e T T':TypeId} {rest:List Value} {enc:γ->List TV} (h:c≠b):(HA n c b g cap e T T' sz rest enc l).rd ⟨b,0,none⟩=some (.slice (some ⟨g,0,none⟩) n cap):=by
 simp [HA,h.symm]
theorem lP {l:List γ} {i:Int} {k:Nat} {n c b g cap:Nat} {e T T':TypeId} {rest:List Value} {enc:γ->List TV} (a:∀x,(enc x).length=sz) {x:γ} {t:TV} {ad:Addr} (hi:gi l i=some x) (hk:(enc x)[k]?=some t) (hb:b≠g) (hc:c≠g) (f:ad=⟨g,i.toNat*sz+k,none⟩):(HA n c b g cap e T T' sz rest enc l).rd ad=some t.val:=by
 subst f;obtain⟨i0,i1⟩:=If hi;have lm:=(Ag.1 i1).1;have d:=(Ag.1 hk).1;rw [a]at d;have h:(i.toNat+1)*sz<=l.length*sz:=BC _ lm;rw [D7]at h;have e1:(AR enc l)[i.toNat*sz+k]?=(enc x)[k]? :=by
  have h2:(AR enc l)[i.toNat*sz+k]?=((AR enc l).drop (i.toNat*sz))[k]? :=by rw [BO]
  rw [h2,J6 a l i.toNat,Bj lm,Pb];have e4:l[i.toNat]=x:=by rw [Ab lm]at i1;injection i1
  rw [e4,AO (by rw [a];exact d)]
 simp only [HA,GM,BP,Ga];rw [Ax (λe=>hc e.symm),Ax (λe=>hb e.symm),BX,Au (by omega),AN,e1,hk];rfl
theorem tM {o:Oper} (d:Nat) {ad:Addr} {x:Nat} (hk:GL P N ops rest (E.put (some d) (.one (.adr ad))) K) (hs:E.slots x= .one (.adr ad)) (ho:o.op= .nilCheck (.tmp x):=by rfl) (hd:o.dst=some d:=by rfl) (hN:Nat.blt d N=true:=by rfl) (hg:BE P ops E o=some true:=by rfl):GL P N ops (o::rest) E K:=
 GL.any d (.adr ad) hk (λw0 FA UA w a blk FS US h=>by
  have h1:=cS h hs;refine⟨.pointer (some ad),?_,by simp [Cz],rfl⟩
  simp [execOp,ho,h1,Instr.sureAddr]) hd hN hg
def Sf (o:Oper):Nat:=o.dst.getD 0
def AA4 (E:St) (ops:Array Oper) (i:Nat) (r:Root) (t:TV):St:=((((((E.put (some (Sf (oA ops i))) (.one .junk)).put (some (Sf (oA ops (i+1)))) (.one .junk))).setRoot r [t]).bump r).put (some (Sf (oA ops (i+2)))) (.tup []))
def yI:Operand->Nat
 | .tmp n=>n
 |_=>0
def dL (o:Oper):Nat:=match o.op with
 | .makeInterface _ x=>yI x
 |_=>0
def ZO (o:Oper):Nat:=match o.op with
 | .makeFunc _ _ c=>yI (c[0]?.getD (.tmp 0))
 |_=>0
def yK (o:Oper):Array TypeId:=match o.op with
 | .call c=>c.argTypes
 |_=> #[]
def Y1 (s:SV):Nat:=match s with
 | .one (.view _ v _ _)=>v
 |_=>0
theorem RW.srt {rr:β} {l:List γ} {kk:List γ->Option β} {x:Option (List γ)} (h:x.bind kk=some rr) {enc:γ->List TV} {sz e t:Nat} {a:FuncId} (r:Root) (hs:∀l',x=some l'->VW P (NV (oA ops (i+2))) t e sz enc a l l') (hk:∀l',x=some l'->kk l'=some rr->RW P N ops (i+3) (AA4 E ops i r (.sl true e sz (AR enc l'))) Q) (b:∀x,(enc x).length=sz) (d:∀x,(enc x).all TV.flat=true) (hx:E.slots (dL (oA ops i))= .one (.view r (Y1 (E.slots (dL (oA ops i)))) [] 0):=by kernel_rfl) (c:E.ver r=Y1 (E.slots (dL (oA ops i))):=by kernel_rfl) (hp:E.ptr? (.tmp (ZO (oA ops (i+1))))=some (r,[],0):=by kernel_rfl) (hc:E.boxes r=some [.sl true e sz (AR enc l)]:=by kernel_rfl) (hm:r.mem=true:=by kernel_rfl) (h1:(oA ops i).op= .makeInterface t (.tmp (dL (oA ops i))):=by kernel_rfl) (h2:(oA ops (i+1)).op= .makeFunc (.func a) #[] #[.tmp (ZO (oA ops (i+1)))]:=by kernel_rfl) (h3:(oA ops (i+2)).op= .call {callee:= .value (.func (NV (oA ops (i+2)))),args:= #[.tmp (Sf (oA ops i)),.tmp (Sf (oA ops (i+1)))],argTypes:=yK (oA ops (i+2))}:=by kernel_rfl) (k1:(oA ops i).dst=some (Sf (oA ops i)):=by kernel_rfl) (k2:(oA ops (i+1)).dst=some (Sf (oA ops (i+1))):=by kernel_rfl) (k3:(oA ops (i+2)).dst=some (Sf (oA ops (i+2))):=by kernel_rfl) (g1:(oA ops i).guard=none:=by kernel_rfl) (g2:(oA ops (i+1)).guard=none:=by kernel_rfl) (g3:(oA ops (i+2)).guard=none:=by kernel_rfl) (hN:(Nat.blt (Sf (oA ops i)) N&&Nat.blt (Sf (oA ops (i+1))) N&&Nat.blt (Sf (oA ops (i+2))) N&&!Nat.beq (Sf (oA ops i)) (Sf (oA ops (i+1)))&&!Nat.beq (ZO (oA ops (i+1))) (Sf (oA ops i))&&Nat.blt 0 sz&&Nat.blt (i+2) ops.size)=true:=by kernel_rfl) (ht:P.underlying t=some (.slice e):=by kernel_rfl) (hf:Ru P N (oA ops (i+2))=true:=by kernel_rfl):RW P N ops i E Q:=by
 obtain⟨l',hl',h⟩:=Ar.1 h;simp only [Al,C8]at hN;obtain⟨⟨⟨⟨⟨⟨q1,q2⟩,q3⟩,q4⟩,q5⟩,q6⟩,q7⟩:=hN;have b2:Nat.blt (i+1) ops.size=true:=by rw [Bn]at q7⊢;omega
 have b1:Nat.blt i ops.size=true:=by rw [Bn]at q7⊢;omega
 have hk':=hk l' hl' h;unfold RW at hk'⊢;rw [Gp b1,Gp b2,Gp q7];exact GX.srt (hs l' hl') hk' b d hx c hp hc hm h1 h2 h3 k1 k2 k3 g1 g2 g3 q1 q2 q3 q4 q5 q6 ht (Nm hf).choose_spec.choose_spec.2.1
def cR (o:Oper):Nat:=match o.op with
 | .call c=>match c.args.toList with
  |[x]=>yI x
  |_=>0
 |_=>0
def dE (s:SV):Nat:=match s with
 | .one (.view (.slot n) _ _ _)=>n
 |_=>0
def T5 (P:Program) (f:FuncId) (t e sz:Nat) (enc:γ->List TV) (g:FuncId) (l l':List γ):Prop:=
 ∀(w:World) (c b:Nat) (v:Value) (rest:List Value) (T T':TypeId),w.heap[c]?=some (.cells #[.pointer (some ⟨b,0,none⟩)] T' (0,0))->w.heap[b]?=some (.cells (v::rest).toArray T (0,0))->w.ownsRow 0 e sz v l.length ((AR enc l).map TV.val)->b∉Cg v->c∉Cg v->c≠b->
  Calls P f #[.iface t v,.func (.func g) #[] #[.pointer (some ⟨c,0,none⟩)]] w λr w'=>r= .returned (.tuple #[])/\GJ w w' (c::b::Cg v)/\w'.heap[c]?=w.heap[c]? /\w'.heap[b]?=w.heap[b]? /\w'.ownsRow 0 e sz v l'.length ((AR enc l').map TV.val)
def rY (c b:Nat) (v:Value) (rest:List Value) (T T':TypeId) (e sz n:Nat) (xs:List Value):P2 where
 B:=c::b::Cg v
 I:=λw=>w.heap[c]?=some (.cells #[.pointer (some ⟨b,0,none⟩)] T' (0,0))/\w.heap[b]?=some (.cells (v::rest).toArray T (0,0))/\w.ownsRow 0 e sz v n xs
 st:=λw w' h hk=>⟨by rw [hk c (by simp)];exact h.1,by rw [hk b (by simp)];exact h.2.1,h.2.2.1,by
  rcases h.2.2.2 with q|⟨g,cap,a,rfl,q1,q2,q3⟩
  ·exact .inl q
  exact .inr ⟨g,cap,a,rfl,q1,by rw [hk g (by simp [Cg,Value.ownBlock])];exact q2,q3⟩⟩
theorem wP {l l':List γ} {rc:Root} {o1 o2 o3:Oper} {ver:Nat} {enc:γ->List TV} {sz e t:Nat} {f g:FuncId} {rs:List TV} {d1 d2 d3 x p b0:Nat} {tys:Array TypeId} (hs:T5 P f t e sz enc g l l') (hk:GX P N ops rest (((((E.put (some d1) (.one .junk)).put (some d2) (.one .junk)).setRoot (.ext 0) (.sl true e sz (AR enc l')::rs)).bump (.ext 0)).put (some d3) (.tup [])) Q) (u:∀x,(enc x).length=sz) (j:∀x,(enc x).all TV.flat=true) (hpin:E.amb.pin=some b0) (hx:E.slots x= .one (.view (.ext 0) ver [] 0)) (y:E.ver (.ext 0)=ver) (hp:E.ptr? (.tmp p)=some (rc,[],0)) (hc:E.boxes (.ext 0)=some (.sl true e sz (AR enc l)::rs)) (c:E.boxes rc=some [.adr ⟨b0,0,none⟩]) (hm:rc.mem=true) (h1:o1.op= .makeInterface t (.tmp x)) (h2:o2.op= .makeFunc (.func g) #[] #[.tmp p]) (h3:o3.op= .call {callee:= .value (.func f),args:= #[.tmp d1,.tmp d2],argTypes:=tys}) (k1:o1.dst=some d1) (k2:o2.dst=some d2) (k3:o3.dst=some d3) (g1:o1.guard=none) (g2:o2.guard=none) (g3:o3.guard=none) (h9:Nat.blt d1 N=true) (a0:Nat.blt d2 N=true) (a1:Nat.blt d3 N=true) (a2:Nat.beq d1 d2=false) (z:Nat.beq p d1=false) (a3:Nat.blt 0 sz=true) (ht:P.underlying t=some (.slice e)) (hf:Yp P f):GX P N ops (o1::o2::o3::rest) E Q:=by
 have hN1':d1<N:=by simpa [Bn]using h9
 have hN2':d2<N:=by simpa [Bn]using a0
 have hN3':d3<N:=by simpa [Bn]using a1
 have hne':d1≠d2:=by intro e;subst e;simp at a2
 have hne2':p≠d1:=by intro e;subst e;simp at z
 have hsz':0<sz:=by simpa [Bn]using a3
 have a4:rc≠ .ext 0:=by
  rintro rfl;rw [hc]at c
  injection c with c
  injection c with c
  cases c
 intro w0 FA UA w a blk FS US hr hF hU;have h0:blk (.ext 0)=b0:=by rw [hr.xblk,hr.pin b0 hpin]
 obtain⟨v,vs,T,F2,U1,U2,b1,b2,b3,b4,b5⟩:∃v vs T F2 U1 U2,w.heap[blk (.ext 0)]?=some (.cells (v::vs).toArray T (0,0))/\(∃F1,Cz w (.sl true e sz (AR enc l)) v F1 U1/\FS (.ext 0)=blk (.ext 0)::(F1++F2))/\B4 w rs vs F2 U2/\US (.ext 0)=U1++U2/\True:=by
  rcases hr.box (.ext 0) rfl with⟨q1,_⟩|⟨cs,h,T,F,q1,q2,q3,q4⟩
  ·rw [hc]at q1;cases q1
  rw [hc]at q1
  injection q1 with q1
  subst q1;simp only [B4]at q3;obtain⟨v,k,F1,F2,U1,U2,e1,rfl,e3,q5,q6⟩:=q3;have:h=(v::k).toArray:=by apply Rx;simpa using e1
  subst this;exact⟨v,k,T,F2,U1,U2,q2,⟨F1,q5,q4⟩,q6,e3,trivial⟩
 obtain⟨F1,b2,b6⟩:=b2;obtain⟨T',c1⟩:∃T',w.heap[blk rc]?=some (.cells #[.pointer (some ⟨b0,0,none⟩)] T' (0,0)):=by
  rcases hr.box rc hm with⟨q1,_⟩|⟨cs,h,T,F,q1,q2,q3,q4⟩
  ·rw [c]at q1;cases q1
  rw [c]at q1
  injection q1 with q1
  subst q1;simp only [B4,Cz]at q3;obtain⟨v,k,F1,F2,U1,U2,e1,rfl,e3,⟨rfl,_⟩,rfl,_⟩:=q3;have:h= #[.pointer (some ⟨b0,0,none⟩)]:=by apply Rx;simpa using e1
  subst this;exact⟨T,q2⟩
 have a5:blk rc∈FS rc:=by
  rcases hr.box rc hm with⟨q1,_⟩|⟨cs,h,T,F,q1,q2,q3,q4⟩
  ·rw [c]at q1;cases q1
  rw [q4];simp
 simp only [Cz]at b2;obtain⟨n,xs,F',b7,b8,rfl⟩:=b2;have a6:=SM b8 (FB j l);obtain⟨rfl,rfl⟩:=Kv b8 (FB j l);subst a6;have a7:n=l.length:=by
  have q:=b7.1;rw [Be,EK u l]at q;exact(Nat.eq_of_mul_eq_mul_right hsz' q).symm
 subst a7;rw [A0]at b6;rw [A5]at b4;have h4:=hr.nodup (.ext 0);rw [b6]at h4
 have a8:blk (.ext 0)∉Cg v:=λhx=>(Dv.1 h4).1 (A8 _ hx)
 have h5:∀x∈FS (.ext 0),x≠blk rc:=λx hx e=>hr.dis _ _ a4 _ a5 (e▸hx)
 have a9:blk rc∉Cg v:=λhx=>h5 (blk rc) (by rw [b6];exact Dl _ (A8 _ hx)) rfl
 have c0:blk rc≠blk (.ext 0):=λe=>h5 (blk (.ext 0)) (by rw [b6];simp) e.symm
 have evx:a.eval (.tmp x)=v:=by
  have q:=hr.slot x;rw [hx]at q;simp only [Ep,CS]at q;obtain⟨⟨_,_,_,q4⟩,_⟩:=q;obtain⟨q5,_⟩:=q4 y;simpa [pv,BV,Addr.add,World.cell?,b1]using q5.symm
 have evp:a.eval (.tmp p)= .pointer (some ⟨blk rc,0,none⟩):=by
  obtain⟨_,ad,q1,q2⟩:=JP hr hp;rw [q2]
  cases rc with
  |slot n=>cases hm
  |hand=>cases hm
  |box n=>simp [pa,Addr.add]at q1;rw [<-q1]
  |ext n=>simp [pa,Addr.add]at q1;rw [<-q1]
 obtain⟨FS1,US1,r1,r2,r3⟩:=Tg hr hF hU hN1' (.iface t v);have e1:(execOp a.eval o1).run P w= .ok (.value (.iface t v)) w:=by
  simp [execOp,h1,Instr.makeInterface,run_underlying ht,evx]
 simp only [wpList,Co hr (Jd (P:=P) (ops:=ops) g1),BX];refine .inl ?_
 try unfold Oper.wp
 rw [e1,Oper.upon_value,k1];have evp1:(a.put (some d1) (.iface t v)).eval (.tmp p)= .pointer (some ⟨blk rc,0,none⟩):=by rw [Dr hne2',evp]
 obtain⟨FS2,US2,s1,s2,s3⟩:=Tg r1 r2 r3 hN2' (.func (.func g) #[] #[.pointer (some ⟨blk rc,0,none⟩)]);have e2:(execOp (a.put (some d1) (.iface t v)).eval o2).run P w= .ok (.value (.func (.func g) #[] #[.pointer (some ⟨blk rc,0,none⟩)])) w:=by
  simp [execOp,h2,Instr.makeFunc,evp1]
 simp only [wpList,Co r1 (Jd (P:=P) (ops:=ops) g2),BX];refine .inl ?_
 try unfold Oper.wp
 rw [e2,Oper.upon_value,k2];simp only [wpList,Co s1 (Jd (P:=P) (ops:=ops) g3),BX];refine .inl ?_;have c2:d1<a.tmps.size:=Bb hN1' hr.len;have c6:d2<(a.put (some d1) (.iface t v)).tmps.size:=Bb hN2' r1.len
 try unfold Oper.wp
 rw [HT h3 hf];have ea: #[Operand.tmp d1,.tmp d2].map ((a.put (some d1) (.iface t v)).put (some d2) (.func (.func g) #[] #[.pointer (some ⟨blk rc,0,none⟩)])).eval= #[.iface t v,.func (.func g) #[] #[.pointer (some ⟨blk rc,0,none⟩)]]:=by
  simp [FP c6,Dr hne',FP c2]
 rw [ea];simp only [Oper.upon];refine Calls.mono (hs w (blk rc) (blk (.ext 0)) v vs T T' (by rw [h0];exact c1) b1 b7 a8 a9 c0) ?_;rintro ee w' ⟨rfl,i,c7,h6,c8⟩;have o:((E.put (some d1) (.one .junk)).put (some d2) (.one .junk)).boxes (.ext 0)=some (.sl true e sz (AR enc l)::rs):=hc;obtain⟨G1,G2,V2,f1,f2,f3,f4⟩:∃G1 G2 V2,FS2 (.ext 0)=blk (.ext 0)::(G1++G2)/\G1=Cg v/\US2 (.ext 0)=V2/\B4 w rs vs G2 V2:=by
  rcases s1.box (.ext 0) rfl with⟨q1,_⟩|⟨cs,h,T2,F2,q1,q2,q3,q4⟩
  ·rw [o]at q1;cases q1
  rw [o]at q1
  injection q1 with q1
  subst q1;rw [b1]at q2
  injection q2 with q2
  injection q2 with q2
  subst q2;simp only [B4]at q3;obtain⟨v2,k,F3,F4,U1,U2,e1,rfl,e3,q5,q6⟩:=q3;simp at e1;obtain⟨rfl,rfl⟩:=e1;simp only [Cz]at q5;obtain⟨n,vs,F',c4,c5,rfl⟩:=q5;obtain⟨rfl,rfl⟩:=Kv c5 (FB j l);exact⟨_,_,_,q4,by simp,by rw [e3];rfl,q6⟩
 subst f2;have m:=s1.nodup (.ext 0);rw [f1]at m;have d0:blk rc∈FS2 rc:=by
  have h7:((E.put (some d1) (.one .junk)).put (some d2) (.one .junk)).boxes rc=some [.adr ⟨b0,0,none⟩]:=c
  rcases s1.box rc hm with⟨q1,_⟩|⟨cs,h,T,F,q1,q2,q3,q4⟩
  ·rw [h7]at q1;cases q1
  rw [q4];simp
 have keepb:∀b,b<w.heap.size->b∉Cg v->w'.heap[b]?=w.heap[b]? :=by
  intro b hb hv;by_cases q1:b=blk rc
  ·rw [q1];exact c7
  by_cases q2:b=blk (.ext 0)
  ·rw [q2];exact h6
  exact i.keep b hb (by simp only [BB,not_or];exact⟨q1,q2,hv⟩)
 have h8:GJ w w' (FS2 (.ext 0)):=⟨i.os,i.tape,i.output,i.size,λb hb hn=>keepb b hb (λhv=>hn (by rw [f1];exact Dl _ (A8 _ hv)))⟩
 have hG:∀b∈G2,w'.heap[b]?=w.heap[b]? :=λb hb=>keepb b (s1.inF (.ext 0) b (by rw [f1];exact Dl _ (AK _ hb))).2
  (λhv=>(Bo.1 (Dv.1 m).2).2.2 b hv b hb rfl)
 have hV:∀b∈V2,w'.heap[b]?=w.heap[b]? :=λb hb=>keepb b (s1.inU (.ext 0) b (by rw [f3];exact hb)).2
  (λhv=>s1.disU (.ext 0) (.ext 0) b (by rw [f1];exact Dl _ (A8 _ hv)) (by rw [f3];exact hb))
 obtain⟨FS3,US3,t1,t2,t3⟩:=s1.turn s2 s3 (r:= .ext 0) rfl o (cells':= .sl true e sz (AR enc l')::rs) (by simp) (w':=w') h8
  ⟨(
   v::vs).toArray,T,Cg v++G2,by rw [h6];exact b1,by
   rw [f3];simp only [B4];refine⟨v,vs,Cg v,G2,[],V2,by simp,rfl,rfl,?_,F6 f4 hG hV⟩;simp only [Cz]
   exact⟨l'.length,_,[],c8,Sx (FB j l'),by simp⟩,f1⟩
 obtain⟨FS4,US4,u1,u2,u3⟩:=t1.land (w':=w') (d:=d3) (s:= .tup []) (v:= .tuple #[]) (F:=[]) (U:=[]) hN3' (by simp [Ep,Nr]) C0 (by simp) (by simp) (A3 _) rfl rfl rfl (λ_ _ _=>rfl);rw [k3];exact hk _ _ _ _ _ _ _ _ u1 u2 u3
def wW:Option (List TV)->List TV
 |some (_::ts)=>ts
 |_=>[]
def rt0:Option (Root×List Nat×Nat)->Root
 |some (r,_,_)=>r
 |none=> .hand
def s2E (E:St) (ops:Array Oper) (i:Nat) (t:TV):St:=((((((E.put (some (Sf (oA ops i))) (.one .junk)).put (some (Sf (oA ops (i+1)))) (.one .junk))).setRoot (.ext 0) (t::wW (E.boxes (.ext 0)))).bump (.ext 0)).put (some (Sf (oA ops (i+2)))) (.tup []))
theorem zN {rr:β} {l:List γ} {kk:List γ->Option β} {x:Option (List γ)} (h:x.bind kk=some rr) {enc:γ->List TV} {sz e t b0:Nat} {a:FuncId} (hs:∀l',x=some l'->T5 P (NV (oA ops (i+2))) t e sz enc a l l') (hk:∀l',x=some l'->kk l'=some rr->RW P N ops (i+3) (s2E E ops i (.sl true e sz (AR enc l'))) Q) (b:∀x,(enc x).length=sz) (d:∀x,(enc x).all TV.flat=true) (hpin:E.amb.pin=some b0:=by kernel_rfl) (hx:E.slots (dL (oA ops i))= .one (.view (.ext 0) (Y1 (E.slots (dL (oA ops i)))) [] 0):=by kernel_rfl) (c:E.ver (.ext 0)=Y1 (E.slots (dL (oA ops i))):=by kernel_rfl) (hp:E.ptr? (.tmp (ZO (oA ops (i+1))))=some (rt0 (E.ptr? (.tmp (ZO (oA ops (i+1))))),[],0):=by kernel_rfl) (hc:E.boxes (.ext 0)=some (.sl true e sz (AR enc l)::wW (E.boxes (.ext 0))):=by kernel_rfl) (f:E.boxes (rt0 (E.ptr? (.tmp (ZO (oA ops (i+1))))))=some [.adr ⟨b0,0,none⟩]:=by kernel_rfl) (hm:(rt0 (E.ptr? (.tmp (ZO (oA ops (i+1)))))).mem=true:=by kernel_rfl) (h1:(oA ops i).op= .makeInterface t (.tmp (dL (oA ops i))):=by kernel_rfl) (h2:(oA ops (i+1)).op= .makeFunc (.func a) #[] #[.tmp (ZO (oA ops (i+1)))]:=by kernel_rfl) (h3:(oA ops (i+2)).op= .call {callee:= .value (.func (NV (oA ops (i+2)))),args:= #[.tmp (Sf (oA ops i)),.tmp (Sf (oA ops (i+1)))],argTypes:=yK (oA ops (i+2))}:=by kernel_rfl) (k1:(oA ops i).dst=some (Sf (oA ops i)):=by kernel_rfl) (k2:(oA ops (i+1)).dst=some (Sf (oA ops (i+1))):=by kernel_rfl) (k3:(oA ops (i+2)).dst=some (Sf (oA ops (i+2))):=by kernel_rfl) (g1:(oA ops i).guard=none:=by kernel_rfl) (g2:(oA ops (i+1)).guard=none:=by kernel_rfl) (g3:(oA ops (i+2)).guard=none:=by kernel_rfl) (hN:(Nat.blt (Sf (oA ops i)) N&&Nat.blt (Sf (oA ops (i+1))) N&&Nat.blt (Sf (oA ops (i+2))) N&&!Nat.beq (Sf (oA ops i)) (Sf (oA ops (i+1)))&&!Nat.beq (ZO (oA ops (i+1))) (Sf (oA ops i))&&Nat.blt 0 sz&&Nat.blt (i+2) ops.size)=true:=by kernel_rfl) (ht:P.underlying t=some (.slice e):=by kernel_rfl) (hf:Ru P N (oA ops (i+2))=true:=by kernel_rfl):RW P N ops i E Q:=by
 obtain⟨l',hl',h⟩:=Ar.1 h;simp only [Al,C8]at hN;obtain⟨⟨⟨⟨⟨⟨q1,q2⟩,q3⟩,q4⟩,q5⟩,q6⟩,q7⟩:=hN;have b2:Nat.blt (i+1) ops.size=true:=by rw [Bn]at q7⊢;omega
 have b1:Nat.blt i ops.size=true:=by rw [Bn]at q7⊢;omega
 have hk':=hk l' hl' h;unfold RW at hk'⊢;rw [Gp b1,Gp b2,Gp q7];exact wP (hs l' hl') hk' b d hpin hx c hp hc f hm h1 h2 h3 k1 k2 k3 g1 g2 g3 q1 q2 q3 q4 q5 q6 ht (Nm hf).choose_spec.choose_spec.2.1
theorem ABn {f:FuncId} {c:Code} {a cells':List TV} {b:SV} (hf:P.funcs[f]?=some fn) (hb:fn.body=some c) (hN:fn.ntmps=N) (h:∀b0,Wp P N c (DA (.ext a::as) (eN b0)) λe E=>(e= .normal\/e= .ret)/\∃ss E',DO P E fn.results.toList=some (ss,E')/\Ev ss=b/\E'.boxes (.ext 0)=some cells') (d:cells'.isEmpty=false:=by rfl):AM P f (.ext a::as) b (.ext cells'::List.replicate as.length .gone):=Xi eN uZ hf hb (by rw [hN];exact h) d
def cH (P:Program) (N:Nat) (ops:Array Oper) (E:St) (i:Nat):Option (FuncId×Array Value×Int×Int):=bif P7 P ops E i&&FQ N (oA ops i)then
 (match(oA ops i).op with
 | .call c=>match c.callee,c.args.toList with
  | .value (.tmp t),[o1,o2]=>match E.slots t,E.cell1 P 0 o1,E.cell1 P 0 o2 with
   | .one (.fn (.func g) fr cap),some (.int .i64 x),some (.int .i64 y)=>bif fr.isEmpty then some (g,cap,x,y)else none
   |_,_,_=>none
  |_,_=>none
 |_=>none)else none
theorem Zv {g:FuncId} {cap:Array Value} {x y:Int} (h:cH P N ops E i=some (g,cap,x,y)):P7 P ops E i=true/\(∃d,(oA ops i).dst=some d/\Nat.blt d N=true)/\∃t o1 o2 tys,(oA ops i).op= .call {callee:= .value (.tmp t),args:= #[o1,o2],argTypes:=tys}/\E.slots t= .one (.fn (.func g) #[] cap)/\E.cell1 P 0 o1=some (.int .i64 x)/\E.cell1 P 0 o2=some (.int .i64 y):=by
 unfold cH at h
 cases hb:(P7 P ops E i&&FQ N (oA ops i))with
 |false=>rw [hb]at h;cases h
 |true=>
  rw [hb]at h;simp only [Af]at h;simp only [Al]at hb;obtain⟨d,h1,h2,_⟩:=E4 hb.2;refine⟨hb.1,⟨d,h1,h2⟩,?_⟩;split at h
  ·rename_i c hc;split at h
   ·rename_i t o1 o2 k1 k2;split at h
    ·rename_i g' fr cap' x' y' m1 m2 m3
     cases he:fr.isEmpty with
     |false=>rw [he]at h;cases h
     |true=>
      rw [he]at h;simp only [Af,Aj,Bk]at h;obtain⟨rfl,rfl,rfl,rfl⟩:=h;have a:fr= #[]:=by simpa using he
      subst a;refine⟨t,o1,o2,c.argTypes,?_,m1,m2,m3⟩;have ha:c.args= #[o1,o2]:=Array.toList_inj.1 k2;rw [hc];cases c;simp only at k1 ha;rw [k1,ha]
    cases h
   cases h
  cases h
theorem m7 {rr:β} {lt:γ->γ->Bool} {l:List γ} {k:γ×γ->Option β} {g:FuncId} {cap:Array Value} (a:Jf P Am lt g cap) {x y:Int} (h:(pE l x y).bind k=some rr) (hk:∀v,k v=some rr->RW P N ops (i+1) (E.put (oA ops i).dst (.one (.bool (lt v.1 v.2)))) Q) (hc:cH P N ops E i=some (g,cap,x,y):=by kernel_rfl) (hA:E.amb=Am l:=by kernel_rfl):RW P N ops i E Q:=by
 obtain⟨h1,⟨d,h2,h3⟩,t,o1,o2,tys,h4,h5,h6,h7⟩:=Zv hc;obtain⟨h8,h9⟩:=H5 h1;unfold RW;rw [Gp h8];exact wQ a h d (λv hv=>by have:=hk v hv;rw [h2]at this;exact this) hA h4 h5 h6 h7 h2 h3 h9
theorem m6 {rr:β} {l:List γ} {k:List γ->Option β} {cap:Array Value} (a:L7 P Am sf cap) (hB:∀l l',(Am l).B=(Am l').B/\(Am l).pin=none) {x y:Int} (h:(gZ l x y).bind k=some rr) (hk:∀v,k v=some rr->RW P N ops (i+1) (({E with amb:=Am v}:St).put (oA ops i).dst (.tup [])) Q) (hc:cH P N ops E i=some (sf,cap,x,y):=by kernel_rfl) (hA:E.amb=Am l:=by kernel_rfl):RW P N ops i E Q:=by
 obtain⟨h1,⟨d,h2,h3⟩,t,o1,o2,tys,h4,h5,h6,h7⟩:=Zv hc;obtain⟨h8,h9⟩:=H5 h1;unfold RW;rw [Gp h8];exact wO a hB h d (λv hv=>by have:=hk v hv;rw [h2]at this;exact this) hA h4 h5 h6 h7 h2 h3 h9
def yA (P:Program) (N:Nat) (ops:Array Oper) (E:St) (i:Nat):Option (FuncId×List AV):=bif P7 P ops E i&&FQ N (oA ops i)then
 (match(oA ops i).op with
 | .call c=>match c.callee with
  | .value (.func f)=>match P.funcs[f]? with
   |some fn=>match IC P E ((c.argTypes.toList.zip c.args.toList).map λ(t,x)=>(false,t,x)) (List.replicate c.args.size none)with
    | some (l, b) => bif b && (l.all j8 && (!(fn.name == "runtime.NumGoroutine") && (!fn.body.isNone && Nat.beq c.argTypes.size c.args.size))) then some (f, l) else none
    |none=>none
   |none=>none
  |_=>none
 |_=>none)else none
theorem Q6 {rr:β} {f:FuncId} {l:List AV} {xl:List γ} {k:List γ->Option β} {x:Option (List γ)} (h:x.bind k=some rr) (hB:∀l l',(Am l).B=(Am l').B/\(Am l).pin=none) (e:∀v,x=some v->L9 P f (Am xl) l (Am v)) (hk:∀v,k v=some rr->RW P N ops (i+1) (({E with amb:=Am v}:St).put (oA ops i).dst (.tup [])) Q) (hc:yA P N ops E i=some (f,l):=by kernel_rfl) (hA:E.amb=Am xl:=by kernel_rfl):RW P N ops i E Q:=by
 unfold yA at hc
 cases hb:(P7 P ops E i&&FQ N (oA ops i))with
 |false=>rw [hb]at hc;cases hc
 |true=>
  rw [hb]at hc;simp only [Af]at hc;simp only [Al]at hb;obtain⟨d,h1,h2,_⟩:=E4 hb.2;obtain⟨h8,h9⟩:=H5 hb.1;split at hc
  ·rename_i c g;split at hc
   ·rename_i f' a;split at hc
    ·rename_i fn j;split at hc
     ·rename_i l' b m
      cases hq : (b && (l'.all j8 && (!(fn.name == "runtime.NumGoroutine") && (!fn.body.isNone && Nat.beq c.argTypes.size c.args.size)))) with
      |false=>rw [hq]at hc;cases hc
      |true=>
       rw [hq]at hc;simp only [Af,Aj,Bk]at hc;obtain⟨rfl,rfl⟩:=hc;simp only [Al,C8]at hq;obtain⟨rfl,q1,q2,q3,q4⟩:=hq;unfold RW;rw [Gp h8];refine zV (fn:=fn) h d Am (A:=Am xl) (args:=c.args) (tys:=c.argTypes) ?_ hA (λv=>⟨(hB _ _).1,(hB _ v).2⟩) m (X4 q1) e (λv _ hv=>by have:=hk v hv;rw [h1]at this;exact this) j q2 q3 h1 h2 (Bt q4) h9;rw [g];cases c;simp only at a;rw [a]
     cases hc
    cases hc
   cases hc
  cases hc
theorem ra {Am:α->P2} {e:Exit} {v r:α} (h:some v=some r) (he:e= .normal\/e= .ret:=by first|exact .inr rfl|exact .inl rfl) (hA:E.amb=Am v:=by kernel_rfl):(e= .normal\/e= .ret)/\E.amb=Am r:=by
 injection h with h
 rw [<-h];exact⟨he,hA⟩
end Go.TI
