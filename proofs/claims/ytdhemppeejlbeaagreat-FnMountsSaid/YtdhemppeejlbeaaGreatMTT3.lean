/- What walks of Go code need. No condition. -/
import Derived.Test.YtdhemppeejlbeaaGreatMTT2
import Derived.KernelRfl
import Derived.Laws.StructEq
set_option linter.unusedVariables false
namespace Go.TI
open Go Go.RowKit
def oA (ops:Array Oper) (i:Nat):Oper:=match ops[i]? with
 |some o=>o
 | none => { dst := none, op := .load 0 (.tmp 0), type := 0, pos := "", after := #[], guard := none }
variable {E E' E1:St} {P:Program} {N i sz m d b j sz' by_ e':Nat} {ops:Array Oper} {Q:Exit->St->Prop} {α β γ α' V A:Type} {dn FA UA:List Nat} {n n':Int} {w:World} {s:SV} {blk:Root->Nat} {K:St->Prop} {as:List AV} {FS US:Root->List Nat} {mv:Bool} {fn:Func} {row row':List TV} {k:IntKind} {t':TV} {sf:FuncId} {rest:List Oper} {f:α->List TV} {r:β} {l:List α} {kk:α->Option β} {tx:Option β} {ty:Option β} {f':α'->List TV} {l':List α'} {x':α'} {u:List α} {Am:List γ->Pk} {fin:α->List TV}
theorem If {ops:Array Oper} (h:Nat.blt i ops.size=true):ops[i]?=some (oA ops i):=by
 have:i<ops.size:=by simpa [Bl]using h
 unfold oA;rw [Array.getElem?_eq_getElem this]
theorem Gg {ops:Array Oper} (h:Nat.blt i ops.size=true):ops.toList.drop i=oA ops i::ops.toList.drop (i+1):=by
 have hi:i<ops.toList.length:=by simpa [Bl]using h
 have h1:=If h;rw [<-Array.getElem?_toList,Ab hi]at h1
 injection h1 with h1
 rw [Bi hi,h1]
def Pq (P:Program) (ops:Array Oper) (E:St) (i:Nat):Bool:=Nat.blt i ops.size&&(match BE P ops E (oA ops i)with|some b=>b|none=>false)
theorem Hs {ops:Array Oper} (h:Pq P ops E i=true):Nat.blt i ops.size=true/\BE P ops E (oA ops i)=some true:=by
 simp only [Pq,Ak]at h;refine⟨h.1,?_⟩;have h2:=h.2;split at h2
 ·rename_i b hb;rw [hb,h2]
 cases h2
def Gc (N:Nat) (o:Oper):Bool:=match o.dst with
 |some d=>Nat.blt d N
 |none=>false
theorem EC {o:Oper} (h:Gc N o=true):∃d,o.dst=some d/\Nat.blt d N=true/\d<N:=by
 unfold Gc at h;split at h
 ·rename_i d hd;exact⟨d,hd,h,by simpa [Bl]using h⟩
 cases h
def o5 (P:Program) (N:Nat) (ops:Array Oper) (mv:Bool) (E:St) (i:Nat):Option St:=bif Nat.blt i ops.size then
  match BE P ops E (oA ops i)with
  |some true=>C8 P N mv E (oA ops i)
  |some false=>bif Gc N (oA ops i)then some (E.put (oA ops i).dst (.tup []))else none
  |none=>none
 else none
def Rc (P:Program) (N:Nat) (ops:Array Oper):Nat->Nat->Nat->St->Option St
 |0,_,_,E=>some E
 |k+1,m,i,E=>match o5 P N ops (Nat.beq (m %2) 1) E i with
  |some E'=>Rc P N ops k (m/2) (i+1) E'
  |none=>none
def Pm (P:Program) (N:Nat) (ops:Array Oper) (k m i:Nat) (E:St):St:=(Rc P N ops k m i E).getD E
theorem getD_some {α:Type _} {x:Option α} {a:α} (h:x.isSome=true):x=some (x.getD a):=by
 cases x with
 |none=>cases h
 |some y=>rfl
def RW (P:Program) (N:Nat) (ops:Array Oper) (i:Nat) (E:St) (Q:Exit->St->Prop):Prop:=GN P N ops (ops.toList.drop i) E Q
def SW (P:Program) (N:Nat) (ops:Array Oper) (m i:Nat) (E:St) (K:St->Prop):Prop:=GC P N ops ((ops.toList.take m).drop i) E K
theorem bd {k:α->Option β} {G:Prop} {x:Option α} (h:x.bind k=some r) (hk:∀a,x=some a->k a=some r->G):G:=by
 obtain⟨a,ha,h⟩:=Ar.1 h;exact hk a ha h
theorem RW.nil (h:Q .normal E) (hi:Nat.ble ops.size i=true:=by kernel_rfl):RW P N ops i E Q:=by
 have:ops.size<=i:=by simpa [NQ]using hi
 unfold RW;rw [CO (by simpa using this)];exact GN.nil h
theorem C3 (hs:C8 P N mv E (oA ops i)=some E') (h:RW P N ops (i+1) E' Q) (hk:Pq P ops E i=true:=by kernel_rfl):RW P N ops i E Q:=by
 obtain⟨h1,h2⟩:=Hs hk;unfold RW;rw [Gg h1];exact GN.op mv h2 hs h
theorem RW.st (hs:o5 P N ops mv E i=some E') (h:RW P N ops (i+1) E' Q):RW P N ops i E Q:=by
 unfold o5 at hs
 cases hi:Nat.blt i ops.size with
 |false=>rw [hi]at hs;cases hs
 |true=>
  rw [hi]at hs;simp only [Af]at hs;unfold RW;rw [Gg hi];split at hs
  ·rename_i hg;exact GN.op mv hg hs h
  ·rename_i hg
   cases hd:Gc N (oA ops i)with
   |false=>rw [hd]at hs;cases hs
   |true=>
    rw [hd]at hs;simp only [Af]at hs
    injection hs with hs
    subst hs;obtain⟨d,h1,_,h2⟩:=EC hd;rw [h1]at h;exact sM h1 h2 hg h
  cases hs
theorem RW.run:∀{k m i:Nat} {E E':St},Rc P N ops k m i E=some E'->RW P N ops (i+k) E' Q->RW P N ops i E Q
 |0,m,i,E,E',h,hw=>by
  simp only [Rc]at h
  injection h with h
  subst h;exact hw
 |k+1,m,i,E,E',h,hw=>by
  simp only [Rc]at h;split at h
  ·rename_i E1 h1;exact RW.st h1 (RW.run h (by rw [H1,Vk 1 k];exact hw))
  cases h
theorem oF (k m:Nat) (h:RW P N ops (i+k) (Pm P N ops k m i E) Q) (hk:(Rc P N ops k m i E).isSome=true:=by kernel_rfl):RW P N ops i E Q:=RW.run (getD_some hk) h
def pR (P:Program) (N:Nat) (ops:Array Oper) (i:Nat) (E:St):Bool:=Pq P ops E i&&pk (oA ops i)&&Gc N (oA ops i)
theorem g9 (h:pR P N ops i E=true):Pq P ops E i=true/\pk (oA ops i)=true/\∃d,(oA ops i).dst=some d/\Nat.blt d N=true/\d<N:=by
 simp only [pR,Ak]at h;exact⟨h.1.1,h.1.2,EC h.2⟩
theorem RW.q (hp:Bh P E (oA ops i)=some s) (h:RW P N ops (i+1) (E.put (oA ops i).dst s) Q) (hk:pR P N ops i E=true:=by kernel_rfl):RW P N ops i E Q:=by
 obtain⟨h1,h2,d,h3,h4,_⟩:=g9 hk;rw [h3]at h;exact C3 (kI hp h3 h4 h2) h h1
theorem AAj {b:Bool} (t:Nat) (h:(bif b then tx else ty)=some r) (ht:tx=some r->RW P N ops i (E.rs t true) Q) (hf:ty=some r->RW P N ops i (E.rs t false) Q) (hc:E.slots t=B b:=by kernel_rfl):RW P N ops i E Q:=yR h t ht hf hc
theorem OP (h:Nat.blt i ops.size=true) (hm:Nat.blt i m=true):(ops.toList.take m).drop i=oA ops i::(ops.toList.take m).drop (i+1):=by
 have hi:i<ops.size:=by simpa [Bl]using h
 have a:i<m:=by simpa [Bl]using hm
 have hl:i<(ops.toList.take m).length:=by simp;omega
 have h1:=If h;rw [Bi hl];congr 1;rw [Jz];rw [<-Array.getElem?_toList,Ab (by simpa using hi)]at h1;injection h1
theorem SW.nil (h:K E) (hi:(Nat.ble ops.size i||Nat.ble m i)=true:=by kernel_rfl):SW P N ops m i E K:=by
 unfold SW
 rw [CO (by
  rw [Cx]at hi
  rcases hi with hi|hi
  ·have:ops.size<=i:=by simpa [NQ]using hi
   simp;omega
  have:m<=i:=by simpa [NQ]using hi
  simp;omega)]
 exact GC.nil h
def gL (P:Program) (N:Nat) (ops:Array Oper) (m:Nat) (E:St) (i:Nat):Option St:=bif Nat.blt i ops.size&&Nat.blt i m&&Gc N (oA ops i)then
  match BE P ops E (oA ops i)with
  |some true=>match IM P E (oA ops i)with
   |some s=>some (E.put (oA ops i).dst s)
   |none=>none
  |some false=>some (E.put (oA ops i).dst (.tup []))
  |none=>none
 else none
def Y3 (P:Program) (N:Nat) (ops:Array Oper) (m:Nat):Nat->Nat->St->Option St
 |0,_,E=>some E
 |k+1,i,E=>match gL P N ops m E i with
  |some E'=>Y3 P N ops m k (i+1) E'
  |none=>none
theorem SW.st (hs:gL P N ops m E i=some E') (h:SW P N ops m (i+1) E' K):SW P N ops m i E K:=by
 unfold gL at hs
 cases hb:(Nat.blt i ops.size&&Nat.blt i m&&Gc N (oA ops i))with
 |false=>rw [hb]at hs;cases hs
 |true=>
  rw [hb]at hs;simp only [Af]at hs;simp only [Ak]at hb;obtain⟨d,h1,_,h2⟩:=EC hb.2;unfold SW;rw [OP hb.1.1 hb.1.2];split at hs
  ·rename_i hg;split at hs
   ·rename_i s a
    injection hs with hs
    subst hs;rw [h1]at h;exact GC.op s hg h1 h2 a h
   cases hs
  ·rename_i hg
   injection hs with hs
   subst hs;rw [h1]at h;exact sH h1 h2 hg h
  cases hs
theorem SW.run:∀{k i:Nat} {E E':St},Y3 P N ops m k i E=some E'->SW P N ops m (i+k) E' K->SW P N ops m i E K
 |0,i,E,E',h,hw=>by
  simp only [Y3]at h
  injection h with h
  subst h;exact hw
 |k+1,i,E,E',h,hw=>by
  simp only [Y3]at h;split at h
  ·rename_i E1 h1;exact SW.st h1 (SW.run h (by rw [H1,Vk 1 k];exact hw))
  cases h
theorem Dx (k:Nat) (h:SW P N ops m (i+k) ((Y3 P N ops m k i E).getD E) K) (hk:(Y3 P N ops m k i E).isSome=true:=by kernel_rfl):SW P N ops m i E K:=SW.run (getD_some hk) h
theorem SW.q (hp:Bh P E (oA ops i)=some s) (h:SW P N ops m (i+1) (E.put (oA ops i).dst s) K) (hk:(pR P N ops i E&&Nat.blt i m)=true:=by kernel_rfl):SW P N ops m i E K:=by
 rw [Ak]at hk;obtain⟨h1,h2,d,h3,h4,h5⟩:=g9 hk.1;obtain⟨h6,h7⟩:=Hs h1;rw [h3]at h;unfold SW;rw [OP h6 hk.2];exact GC.op s h7 h3 h5 (kJ hp h2) h
theorem Xx {b:Bool} (t:Nat) (h:(bif b then tx else ty)=some r) (ht:tx=some r->SW P N ops m i (E.rs t true) K) (hf:ty=some r->SW P N ops m i (E.rs t false) K) (hc:E.slots t=B b:=by kernel_rfl):SW P N ops m i E K:=yI h t ht hf hc
def xU (n:Nat):List Nat->Array Bool
 |[]=>Array.replicate n false
 |i::l=>(xU n l).setIfInBounds i true
def KW (P:Program) (N:Nat) (ops:Array Oper) (ts:List Nat) (dn:List Nat) (E:St) (Q:Exit->St->Prop):Prop:=UV P N ops ts (ops.size-dn.length) (xU ops.size dn) E Q
def KB (P:Program) (N:Nat) (ops:Array Oper) (ts:List Nat) (dn:List Nat) (i:Nat) (E:St) (Q:Exit->St->Prop):Prop:=Zy P N ops ts i E (λE'=>KW P N ops ts (i::dn) E' Q) Q
theorem AW {ts:List Nat} (h:Q .normal E) (hr:(Region.ready .any ops (xU ops.size dn)).isEmpty=true:=by kernel_rfl):KW P N ops ts dn E Q:=sN h (by simpa using hr)
def oM (ops:Array Oper) (dn l:List Nat):Bool:=(Region.ready .any ops (xU ops.size dn)==l)&&Nat.blt dn.length ops.size
theorem SN (h:Nat.blt dn.length ops.size=true):ops.size-dn.length=(ops.size-(i::dn).length)+1:=by
 have:dn.length<ops.size:=by simpa [Bl]using h
 simp only [A0];omega
theorem KW.all {ts:List Nat} (l:List Nat) (h:∀i∈l,KB P N ops ts dn i E Q) (a:l≠ []) (hr:oM ops dn l=true):KW P N ops ts dn E Q:=by
 simp only [oM,Ak,Dm]at hr;unfold KW;rw [SN (i:=0) hr.2];exact UV.all l (λi hi=>h i hi) hr.1 a
theorem Bu {ts:List Nat} (i:Nat) (h:KB P N ops ts dn i E Q) (hr:oM ops dn [i]=true:=by kernel_rfl):KW P N ops ts dn E Q:=KW.all [i] (λj hj=>by simp only [Ay]at hj;subst hj;exact h) (by simp) hr
theorem De {ts:List Nat} (i j:Nat) (h:KB P N ops ts dn i E Q) (h2:KB P N ops ts dn j E Q) (hr:oM ops dn [i,j]=true:=by kernel_rfl):KW P N ops ts dn E Q:=KW.all [i,j] (λm hm=>by
 simp only [BB,List.not_mem_nil,or_false]at hm
 rcases hm with rfl|rfl<;>assumption) (by simp) hr
theorem UW {ts:List Nat} (i j k:Nat) (h:KB P N ops ts dn i E Q) (h2:KB P N ops ts dn j E Q) (h3:KB P N ops ts dn k E Q) (hr:oM ops dn [i,j,k]=true:=by kernel_rfl):KW P N ops ts dn E Q:=KW.all [i,j,k] (λm hm=>by
 simp only [BB,List.not_mem_nil,or_false]at hm
 rcases hm with rfl|rfl|rfl<;>assumption) (by simp) hr
theorem wK {ts:List Nat} (i j k l:Nat) (h:KB P N ops ts dn i E Q) (h2:KB P N ops ts dn j E Q) (h3:KB P N ops ts dn k E Q) (h4:KB P N ops ts dn l E Q) (hr:oM ops dn [i,j,k,l]=true:=by kernel_rfl):KW P N ops ts dn E Q:=KW.all [i,j,k,l] (λm hm=>by
 simp only [BB,List.not_mem_nil,or_false]at hm
 rcases hm with rfl|rfl|rfl|rfl<;>assumption) (by simp) hr
theorem IJ {ts:List Nat} (hs:C8 P N mv E (oA ops i)=some E') (h:KW P N ops ts (i::dn) E' Q) (hk:(Pq P ops E i&&(kp (oA ops i)||ts.contains i))=true:=by kernel_rfl):KB P N ops ts dn i E Q:=by
 rw [Ak]at hk;obtain⟨h1,h2⟩:=Hs hk.1;exact Zy.op i mv h hs (If h1) h2 hk.2
theorem KB.q {ts:List Nat} (hp:Bh P E (oA ops i)=some s) (h:KW P N ops ts (i::dn) (E.put (oA ops i).dst s) Q) (hk:(pR P N ops i E&&(kp (oA ops i)||ts.contains i))=true:=by kernel_rfl):KB P N ops ts dn i E Q:=by
 rw [Ak]at hk;obtain⟨h1,h2,d,h3,h4,h5⟩:=g9 hk.1;rw [h3]at h;exact IJ (kI hp h3 h4 h2) h (by rw [h1,hk.2];rfl)
def f9 (ops:Array Oper) (ts dn:List Nat) (i:Nat):Bool:=Nat.blt dn.length ops.size&&QP ops ts ops.size i (xU ops.size dn)
theorem yW {ts:List Nat} (i:Nat) (hp:IM P E (oA ops i)=some s) (h:KW P N ops ts (i::dn) (E.put (oA ops i).dst s) Q) (hk:(Pq P ops E i&&Gc N (oA ops i)&&f9 ops ts dn i)=true):KW P N ops ts dn E Q:=by
 simp only [Ak,f9]at hk;obtain⟨⟨h1,h2⟩,h3,h4⟩:=hk;obtain⟨h5,h6⟩:=Hs h1;obtain⟨d,h7,h8,_⟩:=EC h2;unfold KW at h⊢;rw [SN (i:=i) h3];rw [h7]at h;exact UV.take ops.size i d s h hp (If h5) h4 h6 h7 h8
theorem KW.q {ts:List Nat} (i:Nat) (hp:Bh P E (oA ops i)=some s) (h:KW P N ops ts (i::dn) (E.put (oA ops i).dst s) Q) (hk:(pR P N ops i E&&f9 ops ts dn i)=true:=by kernel_rfl):KW P N ops ts dn E Q:=by
 rw [Ak]at hk;have h0:=hk.1;simp only [pR,Ak]at h0;exact yW i (kJ hp h0.1.2) h (by rw [h0.1.1,h0.2,hk.2];rfl)
theorem AAp {ts:List Nat} (i:Nat) (h:KW P N ops ts (i::dn) (E.put (oA ops i).dst (.tup [])) Q) (hg:BE P ops E (oA ops i)=some false) (hk:(Nat.blt i ops.size&&Gc N (oA ops i)&&f9 ops ts dn i)=true):KW P N ops ts dn E Q:=by
 simp only [Ak,f9]at hk;obtain⟨⟨h1,h2⟩,h3,h4⟩:=hk;obtain⟨d,h7,h8,_⟩:=EC h2;unfold KW at h⊢;rw [SN (i:=i) h3];rw [h7]at h;exact bY ops.size i d h (If h1) h4 hg h7 h8
def qU (P:Program) (N:Nat) (ops:Array Oper) (ts:List Nat) (mv:Bool) (dn:List Nat) (E:St) (i:Nat):Option St:=match BE P ops E (oA ops i)with
 |some false=>bif Nat.blt i ops.size&&Gc N (oA ops i)&&f9 ops ts dn i then some (E.put (oA ops i).dst (.tup []))else none
 |some true=>bif Nat.blt i ops.size&&Gc N (oA ops i)&&f9 ops ts dn i&&!mv then
   (match IM P E (oA ops i)with
   |some s=>some (E.put (oA ops i).dst s)
   |none=>bif oM ops dn [i]&&(kp (oA ops i)||ts.contains i)then C8 P N mv E (oA ops i)else none)
  else bif Nat.blt i ops.size&&oM ops dn [i]&&(kp (oA ops i)||ts.contains i)then C8 P N mv E (oA ops i)else none
 |none=>none
def nG (P:Program) (N:Nat) (ops:Array Oper) (ts:List Nat):List Nat->Nat->List Nat->St->Option St
 |[],_,_,E=>some E
 |i::l,m,dn,E=>match qU P N ops ts (Nat.beq (m %2) 1) dn E i with
  |some E'=>nG P N ops ts l (m/2) (i::dn) E'
  |none=>none
def aD:List Nat->List Nat->List Nat
 |[],dn=>dn
 |i::l,dn=>aD l (i::dn)
section
variable {ts:List Nat}
theorem KW.st (hs:qU P N ops ts mv dn E i=some E') (h:KW P N ops ts (i::dn) E' Q):KW P N ops ts dn E Q:=by
 unfold qU at hs;split at hs
 ·rename_i hg
  cases hb:(Nat.blt i ops.size&&Gc N (oA ops i)&&f9 ops ts dn i)with
  |false=>rw [hb]at hs;cases hs
  |true=>
   rw [hb]at hs;simp only [Af]at hs
   injection hs with hs
   subst hs;exact AAp i h hg hb
 ·rename_i hg;have one:(Nat.blt i ops.size&&oM ops dn [i]&&(kp (oA ops i)||ts.contains i))=true->C8 P N mv E (oA ops i)=some E'->KW P N ops ts dn E Q:=by
   intro hb hs;simp only [Ak]at hb;refine Bu i (IJ hs h ?_) hb.1.2;simp only [Pq,hb.1.1,hg,hb.2,H3]
  cases hb:(Nat.blt i ops.size&&Gc N (oA ops i)&&f9 ops ts dn i&&!mv)with
  |false=>
   rw [hb]at hs;simp only [Ac]at hs
   cases a:(Nat.blt i ops.size&&oM ops dn [i]&&(kp (oA ops i)||ts.contains i))with
   |false=>rw [a]at hs;cases hs
   |true=>rw [a]at hs;exact one a hs
  |true=>
   rw [hb]at hs;simp only [Af]at hs;simp only [Ak]at hb;split at hs
   ·rename_i s b
    injection hs with hs
    subst hs;refine yW i b h ?_;simp only [Pq,hb.1.1.1,hb.1.1.2,hb.1.2,hg,H3]
   cases a:(oM ops dn [i]&&(kp (oA ops i)||ts.contains i))with
   |false=>rw [a]at hs;cases hs
   |true=>rw [a]at hs;exact one (by rw [hb.1.1.1,CH];exact a) hs
 cases hs
end
theorem KW.run {ts:List Nat}:∀{l:List Nat} {m:Nat} {dn:List Nat} {E E':St},nG P N ops ts l m dn E=some E'->KW P N ops ts (aD l dn) E' Q->KW P N ops ts dn E Q
 |[],m,dn,E,E',h,hw=>by
  simp only [nG]at h
  injection h with h
  subst h;exact hw
 |i::l,m,dn,E,E',h,hw=>by
  simp only [nG]at h;split at h
  ·rename_i E1 h1;exact KW.st h1 (KW.run h hw)
  cases h
theorem Bb {ts:List Nat} (l:List Nat) (m:Nat) (h:KW P N ops ts (aD l dn) ((nG P N ops ts l m dn E).getD E) Q) (hk:(nG P N ops ts l m dn E).isSome=true:=by kernel_rfl):KW P N ops ts dn E Q:=KW.run (getD_some hk) h
theorem Pj {ts:List Nat} {b:Bool} (t:Nat) (h:(bif b then tx else ty)=some r) (ht:tx=some r->KW P N ops ts dn (E.rs t true) Q) (hf:ty=some r->KW P N ops ts dn (E.rs t false) Q) (hc:E.slots t=B b:=by kernel_rfl):KW P N ops ts dn E Q:=yV h t ht hf hc
theorem wJ {id:Nat} (h:RW P N ops 0 E Q):Wp P N (.region id ops false) E Q:=by
 have:=Wp.region (id:=id) (l:=ops.toList) (P:=P) (N:=N) (E:=E) (Q:=Q) (by simpa [RW]using h);simpa using this
theorem Lh {id:Nat} (hm:P.follows .mixedOrders=true) (h:SW P N ops ops.size 0 E (λE'=>Q .normal E')) (hB:Region.lexB .any ops=true:=by kernel_rfl):Wp P N (.region id ops true) E Q:=by
 have:=RR (id:=id) (l:=ops.toList) (P:=P) (N:=N) (E:=E) (Q:=Q) hm (by simpa using hB) (by
  have h2:=h;unfold SW at h2;rw [AO (by simp)]at h2
  simpa using h2)
 simpa using this
theorem Pi {id:Nat} (n:Nat) (hm:P.follows .mixedOrders=true) (h:SW P N ops n 0 E (λE'=>RW P N ops n E' Q)) (hB:Region.lexTailB .any ops n=true:=by kernel_rfl):Wp P N (.region id ops true) E Q:=by
 have:=jJ (id:=id) (l:=ops.toList) (P:=P) (N:=N) (E:=E) (Q:=Q) n hm (by simpa using hB) (by simpa [SW,RW]using h);simpa using this
theorem DF {id:Nat} (ts:List Nat) (hm:P.follows .mixedOrders=true) (hQ:∀c E,Q (.panic c) E->False) (h:KW P N ops ts [] E Q):Wp P N (.region id ops true) E Q:=
 jK ops.size ts hm hQ (by simpa [KW,xU]using h) rfl
def YE (E:St) (x:Operand) (sz:Nat):Option (List TV):=match E.ref x with
 |some (r,q,j)=>match E.place r q j with
  |some (.sl _ _ s cells)=>bif Nat.beq s sz then some cells else none
  |_=>none
 |none=>none
theorem Ox {x:Operand} {a:List TV} (h:YE E x sz=some a):∃r q j b e,E.ref x=some (r,q,j)/\E.place r q j=some (.sl b e sz a):=by
 unfold YE at h;split at h
 ·rename_i r q j hr;split at h
  ·rename_i b e s cells' hp
   cases hs:Nat.beq s sz with
   |false=>rw [hs]at h;cases h
   |true=>
    rw [hs]at h;simp only [Af]at h
    injection h with h
    have:=B3 hs;subst h this;exact⟨r,q,j,b,e,hr,hp⟩
  cases h
 cases h
def Xg (P:Program) (t:TypeId):TypeId:=match P.underlying t with
 |some (.slice e)=>e
 |_=>0
def UZ (P:Program) (t:TypeId) (sz:Nat):Bool:=match P.underlying t with
 |some (.slice e)=>Nat.beq (P.cellsOf e) sz&&Nat.blt 0 sz
 |_=>false
theorem L6 {t:TypeId} (h:UZ P t sz=true):∃e,P.underlying t=some (.slice e)/\P.cellsOf e=sz/\Nat.blt 0 sz=true:=by
 unfold UZ at h;split at h
 ·rename_i e he;rw [Ak]at h;exact⟨e,he,B3 h.1,h.2⟩
 cases h
def GX (E:St) (x:Operand):Root×List Nat×Nat:=(E.ptr? x).getD (.hand,[],0)
def JV (E:St) (x:Operand):Root×List Nat×Nat:=(E.ref x).getD (.hand,[],0)
def PK (E:St) (x:Operand):Option (List TV×Nat):=match E.ptr? x with
 |some (r,q,j)=>match(E.root r).bind λcs=>BV cs q with
  |some row=>some (row,j)
  |none=>none
 |none=>none
theorem PJ {x:Operand} {a:List TV} (h:PK E x=some (a,j)):E.ptr? x=some ((GX E x).1,(GX E x).2.1,j)/\(E.root (GX E x).1).bind (λcs=>BV cs (GX E x).2.1)=some a:=by
 unfold PK at h;split at h
 ·rename_i r q j' hp;split at h
  ·rename_i row' hr
   injection h with h
   injection h with h1 h2
   subst h1 h2;simp only [GX,hp,BA];exact⟨trivial,hr⟩
  cases h
 cases h
theorem mW {r:Root} {x:Operand} {q:List Nat} {a:List TV} (h1:E.ptr? x=some (r,q,j)) (h2:(E.root r).bind (λcs=>BV cs q)=some a):PK E x=some (a,j):=by
 unfold PK;rw [h1];simp only [h2]
def Fe (o:Oper):TypeId×Operand×Operand:=match o.op with
 | .indexAddr t a i=>(t,a,i)
 |_=>(0,.tmp 0,.tmp 0)
def nJ (o:Oper):Bool:=match o.op with
 | .indexAddr .. =>true
 |_=>false
theorem aR {o:Oper} (h:nJ o=true):o.op= .indexAddr (Fe o).1 (Fe o).2.1 (Fe o).2.2:=by
 unfold nJ at h;unfold Fe;split at h
 ·rename_i h1;simp only [h1]
 cases h
def Rn (P:Program) (E:St) (x:Operand):Option Int:=match E.cell1 P 0 x with
 |some (.int _ n)=>some n
 |_=>none
theorem HK {x:Operand} (h:Rn P E x=some n):∃k,E.cell1 P 0 x=some (.int k n):=by
 unfold Rn at h;split at h
 ·rename_i k m hc
  injection h with h
  subst h;exact⟨k,hc⟩
 cases h
def qX (P:Program) (E:St) (o:Oper) (sz:Nat):Option (List TV×Int):=bif nJ o&&UZ P (Fe o).1 sz then(match YE E (Fe o).2.1 sz,Rn P E (Fe o).2.2 with
 |some c,some n=>some (c,n)
 |_,_=>none)else none
def eH (E:St) (o:Oper) (m:Nat):SV:= .one (.ptr (JV E (Fe o).2.1).1 (E.ver (JV E (Fe o).2.1).1) ((JV E (Fe o).2.1).2.1++ [(JV E (Fe o).2.1).2.2]) m)
section
variable {o:Oper} {x:α}
theorem IP (hf:∀x,(f x).length=sz) (hx:gi l n=some x) (hc:qX P E o sz=some (AQ f l,n):=by kernel_rfl):Bh P E o=some (eH E o (n.toNat*sz+0)):=by
 unfold qX at hc
 cases hb:(nJ o&&UZ P (Fe o).1 sz)with
 |false=>rw [hb]at hc;cases hc
 |true=>
  rw [hb]at hc;simp only [Af]at hc;rw [Ak]at hb;split at hc
  ·rename_i c n' h1 h2
   injection hc with hc
   injection hc with a b
   subst a b;obtain⟨r,q,j,d,e',h3,h4⟩:=Ox h1;obtain⟨k,h5⟩:=HK h2;obtain⟨e,h6,h7,h8⟩:=L6 hb.2;have:=zS hf r q j hx h4 (aR hb.1) h6 h5 h3 h7 h8;rw [this];simp only [eH,JV,h3,BA]
  cases hc
end
section
variable {o:Oper} {x:α}
theorem zO (hf:∀x,(f x).length=sz) (hx:gi l n=some x) (hf':∀x,(f' x).length=sz') (hx':gi l' n'=some x') (k:Nat) (hi:(nJ o&&UZ P (Fe o).1 sz&&Nat.blt k sz')=true:=by kernel_rfl) (hn:Rn P E (Fe o).2.2=some n:=by kernel_rfl) (hr:E.ref (Fe o).2.1=some ((JV E (Fe o).2.1).1,(JV E (Fe o).2.1).2.1,n'.toNat*sz'+k):=by kernel_rfl) (hp:(E.root (JV E (Fe o).2.1).1).bind (λcs=>BV cs (JV E (Fe o).2.1).2.1)=some (AQ f' l'):=by kernel_rfl) {a:Bool} (hc:(f' x')[k]?=some (.sl a e' sz (AQ f l)):=by rfl):Bh P E o=some (eH E o (n.toNat*sz+0)):=by
 simp only [Ak]at hi;obtain⟨k',h5⟩:=HK hn;obtain⟨e,h6,h7,h8⟩:=L6 hi.1.2;have b:E.place (JV E (Fe o).2.1).1 (JV E (Fe o).2.1).2.1 (n'.toNat*sz'+k)=some (.sl a e' sz (AQ f l)):=by
  obtain⟨cs,h1,h2⟩:=Ar.1 hp;simp only [St.place,h1,Aa,h2];rw [MW hf' hx' (by simpa [Bl]using hi.2),hc]
 have:=zS hf _ _ _ hx b (aR hi.1.1) h6 h5 hr h7 h8;have hj:(JV E (Fe o).2.1).2.2=n'.toNat*sz'+k:=BR (λz:Option (Root×List Nat×Nat)=>(z.getD (Root.hand,[],0)).2.2) hr;rw [this,eH,hj]
end
section
variable {x:α}
theorem pr2 {a:Operand} {c:List TV} (q0:Nat) (hf':∀x,(f' x).length=sz') (hx':gi l' n'=some x') (k:Nat) (h1:E.ptr? a=some ((GX E a).1,[q0,n'.toNat*sz'+k],j):=by kernel_rfl) (hc:(E.root (GX E a).1).bind (λcs=>BV cs [q0])=some (AQ f' l'):=by kernel_rfl) (b:BV (f' x') [k]=some c:=by kernel_rfl) (hk:Nat.blt k sz'=true:=by kernel_rfl):PK E a=some (c,j):=by
 refine mW h1 ?_;obtain⟨cs,h2,h3⟩:=Ar.1 hc;have h4:=mA hf' hx' (q:=[]) (show k<sz' by simpa [Bl]using hk);rw [h2];simp only [Aa];simp only [BV]at h3;split at h3
 ·rename_i o' e' s' d e
  injection h3 with h3
  subst h3;simp only [BV,e];simp only [BV]at h4 b;rw [h4];exact b
 cases h3
end
def Qh (o:Oper):TypeId×Operand×Nat:=match o.op with
 | .fieldAddr t a i=>(t,a,i)
 |_=>(0,.tmp 0,0)
def yA (o:Oper):Bool:=match o.op with
 | .fieldAddr .. =>true
 |_=>false
theorem uQ {o:Oper} (h:yA o=true):o.op= .fieldAddr (Qh o).1 (Qh o).2.1 (Qh o).2.2:=by
 unfold yA at h;unfold Qh;split at h
 ·rename_i h1;simp only [h1]
 cases h
def wF (P:Program) (o:Oper):Option Nat:=match P.underlying (Qh o).1 with
 |some (.struct fs)=>match fs[(Qh o).2.2]? with
  |some fd=>bif Nat.beq (P.cellsOf fd.type) 0 then none else some fd.offset
  |none=>none
 |_=>none
def AAe (E:St) (o:Oper) (m:Nat):SV:= .one (.ptr (GX E (Qh o).2.1).1 (E.stamp (GX E (Qh o).2.1).1 (GX E (Qh o).2.1).2.1) (GX E (Qh o).2.1).2.1 m)
section
variable {o:Oper} {x:α}
theorem D8 (hf:∀x,(f x).length=sz) (hx:gi l n=some x) (k m:Nat) (hr:PK E (Qh o).2.1=some (AQ f l,n.toNat*sz+k):=by kernel_rfl) (ho:(yA o&&Nat.blt m sz)=true:=by kernel_rfl) (a:wF P o=some (m-k):=by kernel_rfl) (b:Nat.ble k m=true:=by kernel_rfl):Bh P E o=some (AAe E o (n.toNat*sz+m)):=by
 rw [Ak]at ho;obtain⟨h1,h2⟩:=PJ hr;have d:k<=m:=by simpa [NQ]using b
 unfold wF at a;split at a
 ·rename_i fs hs;split at a
  ·rename_i fd c
   cases hb:Nat.beq (P.cellsOf fd.type) 0 with
   |true=>rw [hb]at a;cases a
   |false=>
    rw [hb]at a;simp only [Ac]at a
    injection a with a
    have hm:k+fd.offset=m:=by omega
    exact AAQ hf _ _ k hx h2 (uQ ho.1) hs h1 c hb hm (by rw [hm];exact ho.2)
  cases a
 cases a
end
def MQ (o:Oper):TypeId×Operand:=match o.op with
 | .load t a=>(t,a)
 |_=>(0,.tmp 0)
def uP (o:Oper):Bool:=match o.op with
 | .load .. =>true
 |_=>false
theorem lL {o:Oper} (h:uP o=true):o.op= .load (MQ o).1 (MQ o).2:=by
 unfold uP at h;unfold MQ;split at h
 ·rename_i h1;simp only [h1]
 cases h
def wD (P:Program) (o:Oper) (k sz:Nat):Bool:=uP o&&!Yi P (MQ o).1&&Nat.beq (P.cellsOf (MQ o).1) 1&&(P.underlying (MQ o).1).isSome&&Nat.blt k sz
def wE (P:Program) (o:Oper) (k m sz:Nat):Bool:=uP o&&Yi P (MQ o).1&&Nat.beq (P.cellsOf (MQ o).1) m&&Nat.ble (k+m) sz
def ldC (E:St) (o:Oper) (j:Nat) (u:TV):SV:= .one (wR E (GX E (MQ o).2).1 (GX E (MQ o).2).2.1 j u)
def ldA (E:St) (o:Oper) (j:Nat) (us:List TV):SV:= .agg (Sw E (GX E (MQ o).2).1 (GX E (MQ o).2).2.1 j us)
section
variable {o:Oper} {x:α}
theorem CD (hf:∀x,(f x).length=sz) (hx:gi l n=some x) (k:Nat) (hr:PK E (MQ o).2=some (AQ f l,n.toNat*sz+k):=by kernel_rfl) (ho:wD P o k sz=true:=by kernel_rfl):Bh P E o=some (ldC E o (n.toNat*sz+k) (((f x)[k]?).getD .junk)):=by
 simp only [wD,Ak,CP]at ho;obtain⟨⟨⟨⟨h3,h4⟩,h5⟩,h6⟩,h7⟩:=ho;obtain⟨h1,h2⟩:=PJ hr;have hk:k<(f x).length:=by rw [hf];simpa [Bl]using h7
 refine AAP hf _ _ k _ hx h2 (lL h3) h1 h4 (B3 h5) h6 h7 ?_;rw [Ab hk];rfl
end
section
variable {o:Oper} {x:α}
theorem M7 (hf:∀x,(f x).length=sz) (hx:gi l n=some x) (k m:Nat) (hr:PK E (MQ o).2=some (AQ f l,n.toNat*sz+k):=by kernel_rfl) (ho:wE P o k m sz=true:=by kernel_rfl):Bh P E o=some (ldA E o (n.toNat*sz+k) (((f x).drop k).take m)):=by
 simp only [wE,Ak]at ho;obtain⟨⟨⟨h3,h4⟩,h5⟩,h6⟩:=ho;obtain⟨h1,h2⟩:=PJ hr;exact AAO hf _ _ k m hx h2 (lL h3) h1 h4 (B3 h5) h6
end
section
variable {x:α}
def NB (o:Oper):TypeId×Operand:=match o.op with
 | .call c=>match c.callee,c.args.toList,c.argTypes.toList with
  | .builtin .len,[x],[t]=>(t,x)
  |_,_,_=>(0,.tmp 0)
 |_=>(0,.tmp 0)
end
section
variable {x:α}
def uO (o:Oper):Bool:=match o.op with
 | .call c=>match c.callee,c.args.toList,c.argTypes.toList with
  | .builtin .len,[x],[t]=>true
  |_,_,_=>false
 |_=>false
end
theorem lK {o:Oper} (h:uO o=true):o.op= .call {callee:= .builtin .len,args:= #[(NB o).2],argTypes:= #[(NB o).1]}:=by
 unfold uO at h;unfold NB;split at h
 ·rename_i c hc;split at h
  ·rename_i x t h1 h2 h3;obtain⟨callee,args,types⟩:=c;simp only at h1 h2 h3;subst h1;obtain rfl:args= #[x]:=by cases args;simp_all
   obtain rfl:types= #[t]:=by cases types;simp_all
   rw [hc]
  cases h
 cases h
section
variable {o:Oper} {x:α}
theorem CS (hf:∀x,(f x).length=sz) (l:List α) (hr:YE E (NB o).2 sz=some (AQ f l):=by kernel_rfl) (ho:(uO o&&UZ P (NB o).1 sz)=true:=by kernel_rfl):Bh P E o=some (.one (.int .i64 (ln l))):=by
 rw [Ak]at ho;obtain⟨r,q,j,a,e',h3,h4⟩:=Ox hr;obtain⟨e,h6,h7,h8⟩:=L6 ho.2;exact zR hf l (lK ho.1) h6 h3 h4 h8
end
section
variable {o:Oper} {x:α}
theorem AAL (hf:∀x,(f x).length=sz) (l:List α) (hf':∀x,(f' x).length=sz') (hx':gi l' n'=some x') (k:Nat) (ho:(uO o&&UZ P (NB o).1 sz&&Nat.blt k sz')=true:=by kernel_rfl) (hr:E.ref (NB o).2=some ((JV E (NB o).2).1,(JV E (NB o).2).2.1,n'.toNat*sz'+k):=by kernel_rfl) (hp:(E.root (JV E (NB o).2).1).bind (λcs=>BV cs (JV E (NB o).2).2.1)=some (AQ f' l'):=by kernel_rfl) {a:Bool} (hc:(f' x')[k]?=some (.sl a e' sz (AQ f l)):=by rfl):Bh P E o=some (.one (.int .i64 (ln l))):=by
 simp only [Ak]at ho;obtain⟨e,h6,h7,h8⟩:=L6 ho.1.2;have b:E.place (JV E (NB o).2).1 (JV E (NB o).2).2.1 (n'.toNat*sz'+k)=some (.sl a e' sz (AQ f l)):=by
  obtain⟨cs,h1,h2⟩:=Ar.1 hp;simp only [St.place,h1,Aa,h2];rw [MW hf' hx' (by simpa [Bl]using ho.2),hc]
 exact zR hf l (lK ho.1.1) h6 hr b h8
end
def Wb (P:Program) (E:St) (t:TypeId) (x:Operand):Option ByteArray:=match E.cell1 P t x with
 |some (.str s)=>some s
 |_=>none
theorem LY {s:ByteArray} {t:TypeId} {x:Operand} (h:Wb P E t x=some s):E.cell1 P t x=some (.str s):=by
 unfold Wb at h;split at h
 ·rename_i u hu
  injection h with h
  rw [hu,h]
 cases h
def eJ (P:Program) (t:TypeId):Bool:=match P.underlying t with
 |some .string=>true
 |_=>false
theorem WO {t:TypeId} (h:eJ P t=true):P.underlying t=some .string:=by
 unfold eJ at h;split at h
 ·assumption
 cases h
def vR (P:Program) (E:St) (o:Oper):Option (ByteArray×Int):=match o.op with
 | .index t a i=>match eJ P t,Wb P E t a,Rn P E i with
  |true,some s,some n=>some (s,n)
  |_,_,_=>none
 |_=>none
theorem gA {o:Oper} {s:ByteArray} {b:Int} (h:sx s n=some b) (hc:vR P E o=some (s,n):=by kernel_rfl):Bh P E o=some (.one (.int .u8 b)):=by
 unfold vR at hc;split at hc
 ·rename_i t a i ho;split at hc
  ·rename_i s' n' h1 h2 h3
   injection hc with hc
   injection hc with c d
   subst c d;obtain⟨k,h3⟩:=HK h3;exact AAN h ho (WO h1) (LY h2) h3
  cases hc
 cases hc
section
variable {x:α}
def Zh (P:Program) (E:St) (d:Int):Option Operand->Option Int
 |none=>some d
 |some x=>Rn P E x
end
def oY (P:Program) (E:St) (o:Oper):Option (ByteArray×Int×Int):=match o.op with
 | .slice t a lo hi none=>match eJ P t,Wb P E t a with
  |true,some s=>match Zh P E 0 lo,Zh P E (s.size:Nat) hi with
   |some l,some h=>some (s,l,h)
   |_,_=>none
  |_,_=>none
 |_=>none
section
variable {o:Oper}
theorem OM {d:Int} {x:Option Operand} (h:Zh P E d x=some n):∃k,(match x with|some o=>E.cell1 P 0 o|none=>some (.int .i64 d))=some (.int k n):=by
 cases x with
 |none=>
  simp only [Zh]at h
  injection h with h
  exact⟨.i64,by rw [h]⟩
 |some x=>exact HK h
end
theorem Ve {o:Oper} {s u:ByteArray} {l h:Int} (hx:sub s l h=some u) (hc:oY P E o=some (s,l,h):=by kernel_rfl):Bh P E o=some (.one (.str u)):=by
 unfold oY at hc;split at hc
 ·rename_i t a lo hi ho;split at hc
  ·rename_i s' h1 h2;split at hc
   ·rename_i l' h' h3 h4
    injection hc with hc
    injection hc with c b
    injection b with b d
    subst c b d;obtain⟨k1,h3⟩:=OM h3;obtain⟨k2,h4⟩:=OM h4;exact zP hx ho (WO h1) (LY h2) h3 h4
   cases hc
  cases hc
 cases hc
section
variable {x:α}
def rU (P:Program) (E:St) (o:Oper):Option (ByteArray×ByteArray):=match o.op with
 | .binOp .add t x y _=>match Wb P E t x,Wb P E t y with
  |some a,some b=>some (a,b)
  |_,_=>none
 |_=>none
end
theorem PL {o:Oper} {a b u:ByteArray} (hx:Ty a b=some u) (hc:rU P E o=some (a,b):=by kernel_rfl):Bh P E o=some (.one (.str u)):=by
 unfold rU at hc;split at hc
 ·rename_i t x y t' ho;split at hc
  ·rename_i a' b' h1 h2
   injection hc with hc
   injection hc with c d
   subst c d;exact zU hx ho (LY h1) (LY h2)
  cases hc
 cases hc
section
variable {x:α}
def Pf (o:Oper):TypeId×TypeId×Operand:=match o.op with
 | .convert s d x=>(s,d,x)
 |_=>(0,0,.tmp 0)
end
section
variable {x:α}
def AAf (P:Program) (o:Oper):Bool:=match o.op with
 | .convert s d x=>(match P.underlying s,P.underlying d with
  |some (.slice e),some .string=>(match P.underlying e with
   |some (.int .u8)=>true
   |_=>false)
  |_,_=>false)
 |_=>false
end
theorem xG {o:Oper} {f:Int->List TV} (hf:∀n,f n=[.int .u8 n]) (l:List Int) (hr:YE E (Pf o).2.2 1=some (AQ f l):=by kernel_rfl) (ho:AAf P o=true:=by kernel_rfl):Bh P E o=some (.one (.str (Hz l))):=by
 obtain⟨r,q,j,b,e',h3,h4⟩:=Ox hr;unfold AAf at ho;split at ho
 ·rename_i s d x a;split at ho
  ·rename_i e hs hd;split at ho
   ·rename_i he;simp only [Pf,a]at h3;exact AAS hf l a hs hd he h3 h4
   cases ho
  cases ho
 cases ho
section
variable {x:α}
def pA (P:Program) (E:St) (o:Oper) (k:IntKind):Option (Int×Int):=match o.op with
 | .binOp .shl t x y _=>match E.cell1 P t x,E.cell1 P t y with
  |some (.int k' a),some (.int _ b)=>bif decide (k'=k)then some (a,b)else none
  |_,_=>none
 |_=>none
end
theorem AAK {o:Oper} {a b v:Int} (hx:shl k a b=some v) (hc:pA P E o k=some (a,b):=by kernel_rfl):Bh P E o=some (.one (.int k v)):=by
 unfold pA at hc;split at hc
 ·rename_i t x y t' ho;split at hc
  ·rename_i k' a' k2 b' h1 h2
   cases hk:decide (k'=k)with
   |false=>rw [hk]at hc;cases hc
   |true=>
    rw [hk]at hc;simp only [Af]at hc
    injection hc with hc
    injection hc with hc1 hc2
    have:=Jx hk;subst hc1 hc2 this;exact zQ hx ho h1 h2
  cases hc
 cases hc
section
variable {x:α}
def NK (o:Oper):TypeId×Operand×Option Operand×Option Operand:=match o.op with
 | .slice t x lo hi none=>(t,x,lo,hi)
 |_=>(0,.tmp 0,none,none)
end
section
variable {x:α}
def uR (o:Oper):Bool:=match o.op with
 | .slice t x lo hi none=>true
 |_=>false
end
theorem lM {o:Oper} (h:uR o=true):o.op= .slice (NK o).1 (NK o).2.1 (NK o).2.2.1 (NK o).2.2.2 none:=by
 unfold uR at h;unfold NK;split at h
 ·rename_i h1;simp only [h1]
 cases h
def kN (E:St) (x:Operand) (sz:Nat):Option (Nat×List TV):=match E.ref x with
 |some (r,q,j)=>match E.place r q j with
  |some (.sl false e s cells)=>bif Nat.beq s sz then some (e,cells)else none
  |_=>none
 |none=>none
theorem W3 {x:Operand} {a:List TV} {e:Nat} (h:kN E x sz=some (e,a)):∃r q j,E.ref x=some (r,q,j)/\E.place r q j=some (.sl false e sz a):=by
 unfold kN at h;split at h
 ·rename_i r q j hr;split at h
  ·rename_i e' s cells' hp
   cases hs:Nat.beq s sz with
   |false=>rw [hs]at h;cases h
   |true=>
    rw [hs]at h;simp only [Af]at h
    injection h with h
    injection h with h1 h2
    have:=B3 hs;subst h1 h2 this;exact⟨r,q,j,hr,hp⟩
  cases h
 cases h
section
variable {o:Oper} {x:α}
theorem pdr (hf:∀x,(f x).length=sz) {v:List α} {a b:Int} (e:Nat) (hx:dr l a b=some v) (hr:kN E (NK o).2.1 sz=some (e,AQ f l):=by kernel_rfl) (ha:Zh P E 0 (NK o).2.2.1=some a:=by kernel_rfl) (hb:((NK o).2.2.2.bind (Rn P E))=some b:=by kernel_rfl) (ho:(uR o&&UZ P (NK o).1 sz)=true:=by kernel_rfl):Bh P E o=some (.one (.sl false e sz (AQ f v))):=by
 rw [Ak]at ho;obtain⟨r,q,j,h1,h2⟩:=W3 hr;obtain⟨e1,h6,h7,h8⟩:=L6 ho.2;obtain⟨k1,h3⟩:=OM ha;obtain⟨oh,h4,h5⟩:=Ar.1 hb;obtain⟨k2,h5⟩:=HK h5;have:=lM ho.1;rw [h4]at this;exact AAR hf hx this h6 h1 h2 h3 h5 h7 h8
end
section
variable {o:Oper} {x:α}
theorem xE (hf:∀x,(f x).length=sz) {v:List α} {a:Int} (e:Nat) (hx:dr l a (ln l)=some v) (hr:kN E (NK o).2.1 sz=some (e,AQ f l):=by kernel_rfl) (ha:Zh P E 0 (NK o).2.2.1=some a:=by kernel_rfl) (ho:(uR o&&UZ P (NK o).1 sz&&(NK o).2.2.2.isNone)=true:=by kernel_rfl):Bh P E o=some (.one (.sl false e sz (AQ f v))):=by
 simp only [Ak]at ho;obtain⟨r,q,j,h1,h2⟩:=W3 hr;obtain⟨e1,h6,h7,h8⟩:=L6 ho.1.2;obtain⟨k1,h3⟩:=OM ha;have:=lM ho.1.1;rw [Option.isNone_iff_eq_none.1 ho.2]at this;exact zT hf hx this h6 h1 h2 h3 h7 h8
end
def zF (P:Program) (E:St) (o:Oper) (m:Nat):Bool:=match P.underlying (Fe o).1 with
 |some (.array len e)=>nJ o&&Nat.beq (P.cellsOf e) 1&&Nat.blt m len&&(match E.ptr? (Fe o).2.1 with
  |some (r,q,j)=>(E.place r q (j+m)).isSome
  |none=>false)
 |_=>false
def vO (E:St) (o:Oper) (m:Nat):SV:= .one (.ptr (GX E (Fe o).2.1).1 (E.stamp (GX E (Fe o).2.1).1 (GX E (Fe o).2.1).2.1) (GX E (Fe o).2.1).2.1 ((GX E (Fe o).2.1).2.2+m))
theorem pxa {o:Oper} (m:Nat) (hn:n=(m:Int)) (hi:Rn P E (Fe o).2.2=some n:=by kernel_rfl) (ho:zF P E o m=true:=by kernel_rfl):Bh P E o=some (vO E o m):=by
 unfold zF at ho;split at ho
 ·rename_i len e ht;simp only [Ak]at ho;obtain⟨⟨⟨h1,h2⟩,h3⟩,h4⟩:=ho;obtain⟨k,hi⟩:=HK hi;split at h4
  ·rename_i r q j hp;have:=AAM r q j hn (aR h1) ht hi hp (B3 h2) h3 h4;rw [this];simp only [vO,GX,hp,BA]
  cases h4
 cases ho
section
variable {x:α}
def GK (o:Oper):TypeId×TypeId×Operand×Operand:=match o.op with
 | .call c=>match c.callee,c.args.toList,c.argTypes.toList with
  | .builtin .append,[s,x],[t,t']=>(t,t',s,x)
  |_,_,_=>(0,0,.tmp 0,.tmp 0)
 |_=>(0,0,.tmp 0,.tmp 0)
end
section
variable {x:α}
def uT (o:Oper):Bool:=match o.op with
 | .call c=>match c.callee,c.args.toList,c.argTypes.toList with
  | .builtin .append,[s,x],[t,t']=>true
  |_,_,_=>false
 |_=>false
end
theorem lN {o:Oper} (h:uT o=true):o.op= .call {callee:= .builtin .append,args:= #[(GK o).2.2.1,(GK o).2.2.2],argTypes:= #[(GK o).1,(GK o).2.1]}:=by
 unfold uT at h;unfold GK;split at h
 ·rename_i c hc;split at h
  ·rename_i s x t t' h1 h2 h3;obtain⟨callee,args,types⟩:=c;simp only at h1 h2 h3;subst h1;obtain rfl:args= #[s,x]:=by cases args;simp_all
   obtain rfl:types= #[t,t']:=by cases types;simp_all
   rw [hc]
  cases h
 cases h
def vD (P:Program) (N:Nat) (o:Oper) (sz by_:Nat):Bool:=uT o&&Nat.beq (GK o).1 (GK o).2.1&&UZ P (GK o).1 sz&&(K1 P (Xg P (GK o).1)).isSome&&Nat.beq (P.bytesOf (Xg P (GK o).1)) by_&&Nat.blt 0 by_&&Gc N o
def UP (P:Program) (E:St) (o:Oper) (sz:Nat):Option (List TV×St):=match E.cell1 P (GK o).1 (GK o).2.2.1 with
 |some sv=>match DC E sv with
  |some (.sl true e s cells,E1)=>bif Nat.beq e (Xg P (GK o).1)&&Nat.beq s sz then some (cells,E1)else none
  |_=>none
 |none=>none
def yG (P:Program) (E:St) (o:Oper) (sz:Nat):St:=((UP P E o sz).map Prod.snd).getD E
def apV (P:Program) (o:Oper) (sz:Nat) (a:List TV):SV:= .one (.sl true (Xg P (GK o).1) sz a)
def sC (P:Program) (E1:St) (o:Oper) (sz:Nat):Option (Nat×List TV×St):=match E1.ref (GK o).2.2.2 with
 |some (r,q,j)=>match E1.place r q j with
  |some (.sl _ _ s cells)=>bif Nat.beq s sz then(match EJ E1 (Sw E1 r (q++ [j]) 0 cells)with
   |some (news,E2)=>some (cells.length,news,E2)
   |none=>none)else none
  |_=>none
 |none=>none
theorem bL {t:TypeId} {e:TypeId} (h:P.underlying t=some (.slice e)):Xg P t=e:=by unfold Xg;rw [h]
section
variable {o:Oper} {x:α}
theorem AAd {E2:St} {r:Root} {e2:Nat} {cells2:List TV} (hf:∀x,(f x).length=sz) (l m:List α) (h:ap by_ l m=some u) (hd:UP P E o sz=some (AQ f l,E1)) {q:List Nat} {g:Bool} (hr:E1.ref (GK o).2.2.2=some (r,q,j)) (hp:E1.place r q j=some (.sl g e2 sz cells2)) (hn:EJ E1 (Sw E1 r (q++ [j]) 0 cells2)=some (AQ f m,E2)) (hl:cells2.length=m.length*sz) (ho:vD P N o sz by_=true):C8 P N false E o=some (E2.put o.dst (apV P o sz (AQ f u))):=by
 obtain⟨rfl,i⟩:=vC h;simp only [vD,Ak]at ho;obtain⟨⟨⟨⟨⟨⟨a1,a2⟩,a3⟩,a4⟩,a5⟩,a6⟩,a7⟩:=ho;obtain⟨d,a8,_,a9⟩:=EC a7;obtain⟨e,b1,b2,b3⟩:=L6 a3;have a:=bL b1;rw [a]at a4 a5;have h0':0<sz:=by simpa [Bl]using b3
 have hb0':0<by_:=by simpa [Bl]using a6
 have hb:=B3 a5;have k:=B3 a2;unfold UP at hd;rw [a]at hd;split at hd
 ·rename_i sv hs;split at hd
  ·rename_i e1 s n E1' h1
   cases hc:(Nat.beq e1 e&&Nat.beq s sz)with
   |false=>rw [hc]at hd;cases hd
   |true=>
    rw [hc]at hd;simp only [Af]at hd
    injection hd with hd
    injection hd with hd1 hd2
    rw [Ak]at hc;have c1:=B3 hc.1;have c2:=B3 hc.2;subst hd1 hd2 c1 c2;have b:(AQ f l).length/s=l.length:=by rw [EV hf];exact EM _ h0'
    have c:cells2.length/s=m.length:=by rw [hl];exact EM _ h0'
    have p:l.length+m.length<=(l.length+m.length)*by_:=Nat.le_mul_of_pos_right _ hb0';unfold C8;rw [a8];simp only [Aw a9,lN a1,Aw k,LR,b1,hs,h1,hr,hp,hn];rw [Aw ⟨trivial,b2.symm,trivial,h0',a4,by rw [b,c];omega,by rw [b,c,hb];exact i⟩,UJ,apV,a]
  cases hd
 cases hd
end
theorem Xw {o:Oper} {a:List TV} (h:(UP P E o sz).map Prod.fst=some a):UP P E o sz=some (a,yG P E o sz):=by
 unfold yG
 cases hx:UP P E o sz with
 |none=>rw [hx]at h;cases h
 |some z=>
  rw [hx]at h;simp only [Bz]at h
  injection h with h
  subst h;rfl
section
variable {o:Oper} {x:α}
theorem Dh {m:List α} (hf:∀x,(f x).length=sz) (hg:∀x,IB (f x)=true) (l:List α) (h:ap by_ l m=some u) (hd:(UP P E o sz).map Prod.fst=some (AQ f l):=by kernel_rfl) (hm:YE (yG P E o sz) (GK o).2.2.2 sz=some (AQ f m):=by kernel_rfl) (ho:vD P N o sz by_=true:=by kernel_rfl):
  C8 P N false E o=some ((yG P E o sz).put o.dst (apV P o sz (AQ f u))):=by
 obtain⟨r,q,j,a,e,h1,h2⟩:=Ox hm;exact AAd hf l m h (Xw hd) h1 h2 (by rw [Wi _ (RA hg m),Pe (RA hg m)]) (EV hf m) ho
end
section
variable {o:Oper} {x:α}
theorem Tg (hf:∀x,(f x).length=sz) (l m:List α) (h:ap by_ l m=some u) (hd:(UP P E o sz).map Prod.fst=some (AQ f l):=by kernel_rfl) (hm:(sC P (yG P E o sz) o sz).map (λz=>(z.1,z.2.1))=some (m.length*sz,AQ f m):=by kernel_rfl) (ho:vD P N o sz by_=true:=by kernel_rfl):
  C8 P N false E o=some ((((sC P (yG P E o sz) o sz).map (λz=>z.2.2)).getD E).put o.dst (apV P o sz (AQ f u))):=by
 have hd':=Xw hd;generalize hE:yG P E o sz=E1 at hm hd'⊢;unfold sC at hm⊢
 cases hr:E1.ref (GK o).2.2.2 with
 |none=>simp only [hr]at hm;cases hm
 |some z=>
  obtain⟨r,q,j⟩:=z;simp only [hr]at hm⊢
  cases hp:E1.place r q j with
  |none=>simp only [hp]at hm;cases hm
  |some t=>
   simp only [hp]at hm⊢
   cases t with
   |sl own e2 s cells=>
    simp only at hm⊢
    cases hb:Nat.beq s sz with
    |false=>rw [hb]at hm;cases hm
    |true=>
     rw [hb]at hm;simp only [Af]at hm⊢;have:=B3 hb;subst this
     cases hn:EJ E1 (Sw E1 r (q++ [j]) 0 cells)with
     |none=>simp only [hn]at hm;cases hm
     |some y=>
      obtain⟨news,E2⟩:=y;simp only [hn,Bz]at hm⊢
      injection hm with hm
      injection hm with hm1 hm2
      subst hm2;exact AAd hf l m h hd' hr hp hn hm1 ho
   |_=>simp only at hm;cases hm
end
def Rm (o:Oper):TypeId×Operand×Operand:=match o.op with
 | .makeSlice t l c=>(t,l,c)
 |_=>(0,.tmp 0,.tmp 0)
def xZ (o:Oper):Bool:=match o.op with
 | .makeSlice .. =>true
 |_=>false
theorem uN {o:Oper} (h:xZ o=true):o.op= .makeSlice (Rm o).1 (Rm o).2.1 (Rm o).2.2:=by
 unfold xZ at h;unfold Rm;split at h
 ·rename_i h1;simp only [h1]
 cases h
def zY (P:Program) (N:Nat) (o:Oper) (sz by_:Nat):Bool:=xZ o&&UZ P (Rm o).1 sz&&Nat.beq (P.bytesOf (Xg P (Rm o).1)) by_&&Gc N o
section
variable {o:Oper} {x:α}
theorem sV (hf:∀x,(f x).length=sz) (z:α) (h:mk by_ z n=some u) (hl:Rn P E (Rm o).2.1=some n:=by kernel_rfl) (hc:Rn P E (Rm o).2.2=some n:=by kernel_rfl) (hz:K1 P (Xg P (Rm o).1)=some (f z):=by kernel_rfl) (ho:zY P N o sz by_=true:=by kernel_rfl):
  C8 P N false E o=some (E.put o.dst (.one (.sl true (Xg P (Rm o).1) sz (AQ f u)))):=by
 simp only [zY,Ak]at ho;obtain⟨⟨⟨a1,a2⟩,a3⟩,a4⟩:=ho;obtain⟨d,a5,a6,_⟩:=EC a4;obtain⟨e,b1,b2,b3⟩:=L6 a2;have a:=bL b1;rw [a]at hz a3⊢;obtain⟨k1,hl⟩:=HK hl;obtain⟨k2,hc⟩:=HK hc;rw [a5];exact AAI z h (uN a1) a5 a6 b1 hl hc hz rfl (B3 a3) b2
end
def xY (o:Oper):Bool:=match o.op with
 | .convert .. =>true
 |_=>false
theorem uM {o:Oper} (h:xY o=true):o.op= .convert (Pf o).1 (Pf o).2.1 (Pf o).2.2:=by
 unfold xY at h;unfold Pf;split at h
 ·rename_i h1;simp only [h1]
 cases h
def zK (P:Program) (N:Nat) (o:Oper):Bool:=xY o&&eJ P (Pf o).1&&UZ P (Pf o).2.1 1&&eI P (Xg P (Pf o).2.1)&&Gc N o
theorem fsb {o:Oper} {f:Int->List TV} {b:ByteArray} (hf:∀n,f n=[.int .u8 n]) (hx:Wb P E (Pf o).1 (Pf o).2.2=some b) (ho:zK P N o=true:=by kernel_rfl):C8 P N false E o=some (E.put o.dst (.one (.sl false (Xg P (Pf o).2.1) 1 (AQ f (gP b))))):=by
 simp only [zK,Ak]at ho;obtain⟨⟨⟨⟨a1,a2⟩,a3⟩,a4⟩,a5⟩:=ho;obtain⟨d,a6,a7,_⟩:=EC a5;obtain⟨e,b1,b2,b3⟩:=L6 a3;have a:=bL b1;rw [a]at a4⊢;rw [a6];exact AAH hf (uM a1) a6 a7 (WO a2) b1 (LY hx) a4
section
variable {x:α}
def P1 (o:Oper):TypeId×Operand×Operand:=match o.op with
 | .store t a x=>(t,a,x)
 |_=>(0,.tmp 0,.tmp 0)
end
def xW (o:Oper):Bool:=match o.op with
 | .store .. =>o.dst.isNone
 |_=>false
theorem uL {o:Oper} (h:xW o=true):o.op= .store (P1 o).1 (P1 o).2.1 (P1 o).2.2/\o.dst=none:=by
 unfold xW at h;unfold P1;split at h
 ·rename_i h1;simp only [h1];exact⟨trivial,Option.isNone_iff_eq_none.1 h⟩
 cases h
def T7 (P:Program) (E:St) (o:Oper):Option (List TV×St):=match E.val P (P1 o).1 (P1 o).2.2 with
 |some s=>Lk E s
 |none=>none
def o6 (P:Program) (E:St) (o:Oper):List TV:=((T7 P E o).map Prod.fst).getD []
def gK (P:Program) (E:St) (o:Oper):St:=((T7 P E o).map Prod.snd).getD E
def sS (P:Program) (E:St) (o:Oper):Root×List Nat×Nat:=GX (gK P E o) (P1 o).2.1
def mK (P:Program) (E:St) (o:Oper) (k sz:Nat):Bool:=xW o&&(T7 P E o).isSome&&Nat.beq (o6 P E o).length (P.cellsOf (P1 o).1)&&Nat.blt 0 (o6 P E o).length&&Nat.ble (k+(o6 P E o).length) sz
section
variable {o:Oper} {x:α}
theorem z7 {r:Root} (hf:∀x,(f x).length=sz) (hx:gi l n=some x) (k:Nat) {c:Nat} {q:List Nat} {cs cs':List TV} (ho:mK P E o k sz=true) (hp:(gK P E o).ptr? (P1 o).2.1=some (r,c::q,n.toNat*sz+k)) (hr:(gK P E o).root r=some cs) (A:At cs (c::q) (AQ f l) (λa=>setRow a (n.toNat*sz+k) (o6 P E o)) cs'):C8 P N false E o=some (((gK P E o).setRoot r cs').bump r):=by
 simp only [mK,Ak]at ho;obtain⟨⟨⟨⟨a1,a2⟩,a3⟩,a4⟩,a5⟩:=ho;obtain⟨b1,b2⟩:=uL a1;have ht:T7 P E o=some (o6 P E o,gK P E o):=by
  unfold o6 gK
  cases hh:T7 P E o with
  |none=>rw [hh]at a2;cases a2
  |some z=>rfl
 generalize hX:o6 P E o=xs at*;generalize hE:gK P E o=E1 at*;unfold T7 at ht;split at ht
 ·rename_i s hs;have h0':0<xs.length:=by simpa [Bl]using a4
  simp only [C8,b2,b1,Ti,hs,ht,hp,hr,A.c];rw [Aw ⟨A.o,B3 a3,h0',yC hf hx a5⟩,Ax (by simp),A.u]
 cases ht
end
section
variable {o:Oper}
def tP (E:St) (r:Root) (c:Nat) (a:List TV):List TV:=match E.root r with
 |some cs=>match cs[c]? with
  |some (.sl o e s _)=>cs.set c (.sl o e s a)
  |_=>cs
 |none=>[]
end
def PP (E:St) (r:Root) (c:Nat):Option (List TV):=match E.root r with
 |some cs=>match cs[c]? with
  |some (.sl true e s row)=>some row
  |_=>none
 |none=>none
theorem PO {r:Root} {c:Nat} {a:List TV} (h:PP E r c=some a):∃cs e s,E.root r=some cs/\cs[c]?=some (.sl true e s a)/\∀row',tP E r c row'=cs.set c (.sl true e s row'):=by
 unfold PP at h;unfold tP;split at h
 ·rename_i cs hr;split at h
  ·rename_i e s row' hc
   injection h with h
   subst h;exact⟨cs,e,s,hr,hc,λrow''=>by simp only [hc]⟩
  cases h
 cases h
section
variable {o:Oper} {x:α}
theorem Ld (hf:∀x,(f x).length=sz) (hx:gi l n=some x) (k c:Nat) (z:α) (ho:mK P E o k sz=true:=by kernel_rfl) (hp:(gK P E o).ptr? (P1 o).2.1=some ((sS P E o).1,[c],n.toNat*sz+k):=by kernel_rfl) (hr:PP (gK P E o) (sS P E o).1 c=some (AQ f l):=by kernel_rfl) (hz:setRow (f x) k (o6 P E o)=f z:=by kernel_rfl):C8 P N false E o=some (((gK P E o).setRoot (sS P E o).1 (tP (gK P E o) (sS P E o).1 c (AQ f (si l n z)))).bump (sS P E o).1):=by
 obtain⟨cs,e,s,h1,h2,h3⟩:=PO hr;refine z7 hf hx k ho hp h1 ?_;rw [h3];have hk:Nat.ble (k+(o6 P E o).length) sz=true:=by
  simp only [mK,Ak]at ho;exact ho.2
 exact At.one (T8 hf hx hk hz) h2 rfl
end
section
variable {o:Oper} {x:α}
theorem AAW (hf:∀x,(f x).length=sz) (hx:gi l n=some x) (k c:Nat) (z:α) (hf':∀x,(f' x).length=sz') (hx':gi l' n'=some x') (k':Nat) (z':α') (ho:(mK P E o k sz&&Nat.blt k' sz')=true:=by kernel_rfl) (hp:(gK P E o).ptr? (P1 o).2.1=some ((sS P E o).1,[c,n'.toNat*sz'+k'],n.toNat*sz+k):=by kernel_rfl) (hr:PP (gK P E o) (sS P E o).1 c=some (AQ f' l'):=by kernel_rfl) (hz:setRow (f x) k (o6 P E o)=f z:=by kernel_rfl) {e s:Nat} (hc:(f' x')[k']?=some (.sl true e s (AQ f l)):=by rfl) (hc':(f' x').set k' (.sl true e s (AQ f (si l n z)))=f' z':=by rfl):C8 P N false E o=some (((gK P E o).setRoot (sS P E o).1 (tP (gK P E o) (sS P E o).1 c (AQ f' (si l' n' z')))).bump (sS P E o).1):=by
 obtain⟨cs,e1,s1,h1,h2,h3⟩:=PO hr;rw [Ak]at ho;refine z7 hf hx k ho.1 hp h1 ?_;rw [h3];have hk:Nat.ble (k+(o6 P E o).length) sz=true:=by
  have:=ho.1;simp only [mK,Ak]at this;exact this.2
 exact AAr hf' hx' (At.one (T8 hf hx hk hz) hc hc') ho.2 h2 rfl
end
theorem KB.o {ops:Array Oper} {ts dn:List Nat} (mv:Bool) (h:KW P N ops ts (i::dn) ((C8 P N mv E (oA ops i)).getD E) Q) (hs:(C8 P N mv E (oA ops i)).isSome=true:=by kernel_rfl) (hk:(Pq P ops E i&&(kp (oA ops i)||ts.contains i))=true:=by kernel_rfl):KB P N ops ts dn i E Q:=IJ (getD_some hs) h hk
def bits:Nat->List (TypeId×Operand)->List (Bool×TypeId×Operand)
 |_,[]=>[]
 |m,(t,x)::l=>(Nat.beq (m %2) 1,t,x)::bits (m/2) l
def NL (o:Oper):Nat:=match o.op with
 | .call c=>match c.callee with
  | .value (.func f)=>f
  |_=>0
 |_=>0
def FX (o:Oper):List (TypeId×Operand):=match o.op with
 | .call c=>c.argTypes.toList.zip c.args.toList
 |_=>[]
def Rd (P:Program) (N:Nat) (o:Oper):Bool:=(match o.op with
 | .call c=>match c.callee with
  | .value (.func f)=>Nat.beq c.argTypes.size c.args.size&&(match P.funcs[f]? with
   | some fn => !(fn.name == "runtime.NumGoroutine") && !fn.body.isNone
   |none=>false)
  |_=>false
 |_=>false)&&(match o.dst with
 |some d=>Nat.blt d N
 |none=>true)
theorem NO:∀{l:List (TypeId×Operand)} {m:Nat},(bits m l).map (λx=>x.2.2)=l.map Prod.snd
 |[],m=>rfl
 |(t,x)::l,m=>by simp only [bits,BZ,NO]
theorem MZ {o:Oper} (h:Rd P N o=true):∃args tys,o.op= .call {callee:= .value (.func (NL o)),args:=args,argTypes:=tys}/\Ye P (NL o)/\(∀d,o.dst=some d->d<N)/\(FX o).map Prod.snd=args.toList:=by
 simp only [Rd,Ak]at h;obtain⟨h1,h2⟩:=h;have hN:∀d,o.dst=some d->d<N:=by
  intro d hd;rw [hd]at h2;simpa [Bl]using h2
 unfold NL FX;split at h1
 ·rename_i c hc;split at h1
  ·rename_i f a;rw [Ak]at h1;obtain⟨h3,h4⟩:=h1;split at h4
   ·rename_i fn b;simp only [Ak,CP]at h4;obtain⟨callee,args,types⟩:=c;simp only at a h3;subst a;have hz:=B3 h3;refine⟨args,types,by simp only [hc],?_,hN,?_⟩
    ·exact⟨fn,b,by intro e;rw [e]at h4;simp at h4,h4.2⟩
    exact List.map_snd_zip (by simp [hz])
   cases h4
  cases h1
 cases h1
def mvA (P:Program) (E:St) (o:Oper) (m:Nat):Option (List (Option SV)×St):=Lq P E (bits m (FX o))
def sW (P:Program) (E:St) (o:Oper) (m:Nat):St:=((mvA P E o m).map Prod.snd).getD E
def shA (P:Program) (E:St) (o:Oper) (m:Nat):Option (List AV×Bool):=match mvA P E o m with
 |some (ss,E1)=>I2 P E1 (bits m (FX o)) ss
 |none=>none
def XA (P:Program) (E:St) (o:Oper) (m:Nat):Option (List AV):=(shA P E o m).map Prod.fst
def sT (P:Program) (E:St) (o:Oper) (m:Nat):Bool:=match shA P E o m with
 |some (_,b)=>b
 |none=>false
theorem rL {o:Oper} {a:SV} (h:XA P E o m=some as) (hc:sT P E o m=true\/Bq a=false):VE P E o.dst (bits m (FX o)) as a ((sW P E o m).put o.dst a):=by
 unfold XA sT shA at*;unfold sW
 cases hm:mvA P E o m with
 |none=>rw [hm]at h;cases h
 |some z=>
  obtain⟨ss,E1⟩:=z;rw [hm]at h hc;simp only at h hc
  cases hs:I2 P E1 (bits m (FX o)) ss with
  |none=>rw [hs]at h;cases h
  |some y=>
   obtain⟨as',c⟩:=y;rw [hs]at h hc;simp only [Bz]at h hc
   injection h with h
   subst h;exact⟨ss,E1,c,hm,hs,hc,rfl⟩
theorem ca {γ:Type _} {l l':List γ} {a b:γ} (h:a=b) (k:l=l'):a::l=b::l':=by rw [h,k]
theorem cs {e sz:Nat} {a b:List TV} (h:BH a=b):TV.sl false e sz (BH a)= .sl false e sz b:=by rw [h]
theorem co {a b:TV} (h:a=b):AV.sv (.one a)= .sv (.one b):=by rw [h]
theorem RV {a b:List TV} (h:a=b):AV.sv (.agg a)= .sv (.agg b):=by rw [h]
theorem RW.c {l:List AV} {n:Nat} {x:Option α} (m:Nat) (h:x.bind kk=some r) {enc:α->SV} (a:∀v,x=some v->AN P (NL (oA ops i)) l (enc v) (List.replicate n .gone)) (hk:∀v,x=some v->kk v=some r->RW P N ops (i+1) ((sW P E (oA ops i) m).put (oA ops i).dst (enc v)) Q) (b:XA P E (oA ops i) m=some l:=by kernel_rfl) (hc:sT P E (oA ops i) m=true\/∀v,Bq (enc v)=false:=by exact .inl (by kernel_rfl)) (ho:(Pq P ops E i&&Rd P N (oA ops i))=true:=by kernel_rfl):RW P N ops i E Q:=by
 obtain⟨v,hv,h⟩:=Ar.1 h;rw [Ak]at ho;obtain⟨h1,h2⟩:=Hs ho.1;obtain⟨args,tys,h3,h4,h5,h6⟩:=MZ ho.2;unfold RW;rw [Gg h1];exact GN.call h3 h4 h2 h5 (bits m (FX (oA ops i))) (by rw [NO,h6]) (a v hv) (rL b (hc.imp id (λh=>h v))) (hk v hv h)
section
variable {ts:List Nat}
theorem KB.c {l:List AV} {n:Nat} {x:Option α} (m:Nat) (h:x.bind kk=some r) {enc:α->SV} (a:∀v,x=some v->AN P (NL (oA ops i)) l (enc v) (List.replicate n .gone)) (hk:∀v,x=some v->kk v=some r->KW P N ops ts (i::dn) ((sW P E (oA ops i) m).put (oA ops i).dst (enc v)) Q) (b:XA P E (oA ops i) m=some l:=by kernel_rfl) (hc:sT P E (oA ops i) m=true\/∀v,Bq (enc v)=false:=by exact .inl (by kernel_rfl)) (ho:(Pq P ops E i&&Rd P N (oA ops i)&&((bits m (FX (oA ops i))).all (λx=>!x.1)||ts.contains i))=true:=by kernel_rfl):KB P N ops ts dn i E Q:=by
 obtain⟨v,hv,h⟩:=Ar.1 h;simp only [Ak]at ho;obtain⟨h1,h2⟩:=Hs ho.1.1;obtain⟨args,tys,h3,h4,h5,h6⟩:=MZ ho.1.2;exact Zy.call i (If h1) h3 h4 h2 h5 (bits m (FX (oA ops i))) (by rw [NO,h6]) ho.2 (a v hv) (rL b (hc.imp id (λh=>h v))) (hk v hv h)
end
theorem gs {f:FuncId} {l l':List AV} {n:Nat} {x:Option α} {enc:α->SV} (e:l=l') (h:∀v,x=some v->AN P f l' (enc v) (List.replicate n .gone)):∀v,x=some v->AN P f l (enc v) (List.replicate n .gone):=e▸h
def e9 (E:St) (o:Oper):Root:=match FX o with
 |(_,x)::_=>(GX E x).1
 |[]=> .hand
def nX (E:St) (o:Oper):Bool:=match FX o with
 |(_,x)::_=>(match E.ptr? x with
  |some (r,[],0)=>r.mem
  |_=>false)
 |[]=>false
def cxA (P:Program) (E:St) (o:Oper):Option (List AV×Bool):=I2 P (E.without (e9 E o)) (bits 0 (FX o).tail) (List.replicate (bits 0 (FX o).tail).length none)
def nY (P:Program) (E:St) (o:Oper):Option (List AV):=(cxA P E o).map Prod.fst
def zB (P:Program) (E:St) (o:Oper):Bool:=match cxA P E o with
 |some (_,b)=>b
 |none=>false
theorem wG {o:Oper} (h:nX E o=true):∃t x l,FX o=(t,x)::l/\E.ptr? x=some (e9 E o,[],0)/\(e9 E o).mem=true:=by
 unfold nX at h;unfold e9;split at h
 ·rename_i t x l hl;split at h
  ·rename_i r hp;refine⟨t,x,l,hl,?_,?_⟩
   ·simp only [GX,hp,BA]
   simpa only [GX,hp,BA]using h
  cases h
 cases h
theorem rN {p:Prop} {o:Oper} (h:nY P E o=some as) (hc:zB P E o=true\/p):∃c,I2 P (E.without (e9 E o)) (bits 0 (FX o).tail) (List.replicate (bits 0 (FX o).tail).length none)=some (as,c)/\(c=true\/p):=by
 unfold nY zB at*
 cases hs:cxA P E o with
 |none=>rw [hs]at h;cases h
 |some y=>
  obtain⟨as',c⟩:=y;rw [hs]at h hc;simp only [Bz]at h hc
  injection h with h
  subst h;exact⟨c,hs,hc⟩
theorem AAm {l:List AV} {n:Nat} {x:Option α} (h:x.bind kk=some r) {enc:α->SV} {b:List TV} (e:∀v,x=some v->AN P (NL (oA ops i)) (.ext b::l) (enc v) (.ext (fin v)::List.replicate n .gone)) (d:∀v,(fin v).length=b.length) (hk:∀v,x=some v->kk v=some r->RW P N ops (i+1) (((E.setRoot (e9 E (oA ops i)) (fin v)).bump (e9 E (oA ops i))).put (oA ops i).dst (enc v)) Q) (f:nY P E (oA ops i)=some l:=by kernel_rfl) (hb:E.boxes (e9 E (oA ops i))=some b:=by kernel_rfl) (hc:zB P E (oA ops i)=true\/∀v,Bq (enc v)=false/\AK (fin v)=false:=by exact .inl (by kernel_rfl)) (ho:(Pq P ops E i&&Rd P N (oA ops i)&&nX E (oA ops i))=true:=by kernel_rfl):RW P N ops i E Q:=by
 obtain⟨v,hv,h⟩:=Ar.1 h;simp only [Ak]at ho;obtain⟨h1,h2⟩:=Hs ho.1.1;obtain⟨args,tys,h3,h4,h5,h6⟩:=MZ ho.1.2;obtain⟨t,x0,l0,h7,h8,h9⟩:=wG ho.2;obtain⟨c,h10,h11⟩:=rN f hc;unfold RW;rw [Gg h1];intro w0 FA UA w a blk FS US hr hF hU;simp only [wpList,Cp hr h2,BU];refine .inl (fG hr hF hU h3 h4 h5 (x:=x0) (l:=bits 0 (FX (oA ops i)).tail) ?_ h9 h8 hb (d v) h10 (h11.imp id (λh=>h v)) (e v hv) λw' v' blk' FS' US' k1 k2 k3=>hk v hv h _ _ _ _ _ _ _ _ k1 k2 k3);rw [NO,<-h6,h7];rfl
theorem AAq {ts:List Nat} {l:List AV} {n:Nat} {x:Option α} (h:x.bind kk=some r) {enc:α->SV} {b:List TV} (e:∀v,x=some v->AN P (NL (oA ops i)) (.ext b::l) (enc v) (.ext (fin v)::List.replicate n .gone)) (d:∀v,(fin v).length=b.length) (hk:∀v,x=some v->kk v=some r->KW P N ops ts (i::dn) (((E.setRoot (e9 E (oA ops i)) (fin v)).bump (e9 E (oA ops i))).put (oA ops i).dst (enc v)) Q) (f:nY P E (oA ops i)=some l:=by kernel_rfl) (hb:E.boxes (e9 E (oA ops i))=some b:=by kernel_rfl) (hc:zB P E (oA ops i)=true\/∀v,Bq (enc v)=false/\AK (fin v)=false:=by exact .inl (by kernel_rfl)) (ho:(Pq P ops E i&&Rd P N (oA ops i)&&nX E (oA ops i)&&ts.contains i)=true:=by kernel_rfl):KB P N ops ts dn i E Q:=by
 obtain⟨v,hv,h⟩:=Ar.1 h;simp only [Ak]at ho;obtain⟨h1,h2⟩:=Hs ho.1.1.1;obtain⟨args,tys,h3,h4,h5,h6⟩:=MZ ho.1.1.2;obtain⟨t,x0,l0,h7,h8,h9⟩:=wG ho.1.2;obtain⟨c,h10,h11⟩:=rN f hc;intro w0 FA UA w a blk FS US hr hF hU;unfold wpOp;simp only [If h1,Cp hr h2,BU];refine .inl (fG hr hF hU h3 h4 h5 (x:=x0) (l:=bits 0 (FX (oA ops i)).tail) ?_ h9 h8 hb (d v) h10 (h11.imp id (λh=>h v)) (e v hv) λw' v' blk' FS' US' k1 k2 k3=>⟨λht=>(by rw [ho.2]at ht;cases ht),_,_,_,_,hk v hv h,k1,k2,k3⟩);rw [NO,<-h6,h7];rfl
theorem wc {b:Bool} {c:Operand} {x y:Code} (h:(bif b then tx else ty)=some r) (ht:tx=some r->Wp P N x E Q) (hf:ty=some r->Wp P N y E Q) (hc:E.cell1 P 0 c=some (.bool b):=by kernel_rfl):Wp P N (.cond c x y) E Q:=Wp.c h ht hf hc
theorem wt {c:Operand} {x y:Code} (ht:Wp P N x E Q) (hc:E.cell1 P 0 c=some (.bool true):=by kernel_rfl):Wp P N (.cond c x y) E Q:=AAh ht hc
theorem wf {c:Operand} {x y:Code} (hf:Wp P N y E Q) (hc:E.cell1 P 0 c=some (.bool false):=by kernel_rfl):Wp P N (.cond c x y) E Q:=AAi hf hc
theorem rsz {rs:List ResultVar} {a:SV} (h:(DM P E rs).map (λz=>Eu z.1)=some a):∃ss E',DM P E rs=some (ss,E')/\Eu ss=a:=by
 obtain⟨z,h1,h2⟩:=AY.1 h;exact⟨z.1,z.2,h1,h2⟩
theorem rsx {rt:Root} {rs:List ResultVar} {b:SV} {a:List TV} (h:(DM P E rs).map (λz=>(Eu z.1,z.2.boxes rt))=some (b,some a)):∃ss E',DM P E rs=some (ss,E')/\Eu ss=b/\E'.boxes rt=some a:=by
 obtain⟨z,h1,h2⟩:=AY.1 h
 injection h2 with h3 h4
 exact⟨z.1,z.2,h1,h3,h4⟩
theorem gkx {f:FuncId} {c:Code} {a cells':List TV} {b:SV} (hf:P.funcs[f]?=some fn) (hb:fn.body=some c) (hN:fn.ntmps=N) (h:Wp P N c (D7 (.ext a::as)) λe E=>(e= .normal\/e= .ret)/\∃ss E',DM P E fn.results.toList=some (ss,E')/\Eu ss=b/\E'.boxes (.ext 0)=some cells') (d:cells'.isEmpty=false:=by rfl):AN P f (.ext a::as) b (.ext cells'::List.replicate as.length .gone):=nT hf hb (by rw [hN];exact h) d
theorem gk {f:FuncId} {c:Code} {a:SV} (hf:P.funcs[f]?=some fn) (hb:fn.body=some c) (hN:fn.ntmps=N) (h:Wp P N c (D7 as) λe E=>(e= .normal\/e= .ret)/\∃ss E',DM P E fn.results.toList=some (ss,E')/\Eu ss=a):AN P f as a (List.replicate as.length .gone):=rB hf hb (by rw [hN];exact h)
theorem gM:∀t:TV,(Lx t).isSl=t.isSl:=by intro t;cases t<;>rfl
theorem J0:∀(cs:List TV) (j:Nat),(BH cs)[j]?=cs[j]?.map Lx
 |[],j=>by simp [BH]
 |t::ts,0=>by simp [BH]
 |t::ts,j+1=>by simpa [BH]using J0 ts j
theorem UK:∀(q:List Nat) (cs:List TV),BV (BH cs) q=(BV cs q).map BH
 |[],cs=>rfl
 |c::q,cs=>by
  simp only [BV,J0]
  cases cs[c]? with
  |none=>rfl
  |some t=>
   cases t with
   |sl o e sz cells=>exact UK q cells
   |_=>rfl
def iY:TV->List TV->TV
 | .sl _ e s _,row=> .sl false e s row
 |t,_=>t
def Xa (cs:List TV) (j:Nat) (a:List TV):List TV:=match cs[j]? with
 |some t=>cs.set j (iY t a)
 |none=>cs
theorem bF {cs:List TV} {j e s:Nat} {a:List TV} (h:cs[j]?=some (.sl true e s a)) (c:Nat):(Xa cs j (BH a))[c]?=if c=j then some (.sl false e s (BH a))else cs[c]? :=by
 have hj:=(Ag.1 h).1;simp only [Xa,h,iY];rw [Ci];by_cases hc:j=c
 ·subst hc;simp [hj]
 rw [Ax hc,Ax (λe=>hc e.symm)]
theorem rG {r1:List TV} {cs:List TV} {j e s:Nat} {a:List TV} (h:cs[j]?=some (.sl true e s a)) {q:List Nat} (hq:BV cs q=some r1) (i:Nat):
  ∃r2,BV (Xa cs j (BH a)) q=some r2/\(r1[i]?.isSome=true->r2[i]?.isSome=true)/\(JX r1[i]?=true->JX r2[i]?=true):=by
 cases q with
 |nil=>
  simp only [BV]at hq
  injection hq with hq
  subst hq;refine⟨_,rfl,?_,?_⟩
  ·rw [bF h];split
   ·intro _;rfl
   exact id
  rw [bF h];split
  ·intro _;rfl
  exact id
 |cons c q=>
  simp only [BV,bF h];simp only [BV]at hq;by_cases hc:c=j
  ·subst hc;rw [h]at hq;simp only at hq;rw [Aw rfl];simp only [UK,hq,Bz];refine⟨_,rfl,?_,?_⟩
   ·rw [J0];simp
   rw [J0]
   cases r1[i]? with
   |none=>exact id
   |some t=>simp only [JX,Bz,gM];exact id
  rw [Ax hc];exact⟨r1,hq,id,id⟩
theorem W5:∀{ts:List TV} {vs:List Value} {F U:List Nat} {j:Nat} {t:TV},By w ts vs F U->ts[j]?=some t->F.Nodup->(∀v F1 U1,Cz w t v F1 U1->∃F2 U2,Cz w t' v F2 U2/\Ix F1 U1 F2 U2)->
  ∃F' U',By w (ts.set j t') vs F' U'/\Ix F U F' U'
 |[],vs,F,U,j,t,h,hj,_,_=>by simp at hj
 |x::ts,vs,F,U,0,t,h,hj,hn,hk=>by
  simp at hj;subst hj;simp only [By]at h;obtain⟨v,a,F1,F2,U1,U2,rfl,rfl,rfl,h1,h2⟩:=h;obtain⟨F1',U1',a1,a2⟩:=hk v F1 U1 h1;exact⟨F1'++F2,U1'++U2,by simp only [DI,By];exact⟨v,a,F1',F2,U1',U2,rfl,rfl,rfl,a1,h2⟩,QF hn a2 Ix.refl⟩
 |x::ts,vs,F,U,j+1,t,h,hj,hn,hk=>by
  simp only [By]at h;obtain⟨v,a,F1,F2,U1,U2,rfl,rfl,rfl,h1,h2⟩:=h;obtain⟨F2',U2',a1,a2⟩:=W5 h2 (by simpa using hj) (Bm.1 hn).2.1 hk;exact⟨F1++F2',U1++U2',by simp only [LK,By];exact⟨v,a,F1,F2',U1,U2',rfl,rfl,rfl,h1,a1⟩,QF hn Ix.refl a2⟩
theorem Xk {a:Act} {blk:Root->Nat}:∀{ts:List TV} {vs:List Value} {F U:List Nat} {j:Nat} {t:TV},CT w a E blk ts vs F U->ts[j]?=some t->F.Nodup->(∀v F1 U1,CR w a E blk t v F1 U1->∃F2 U2,CR w a E blk t' v F2 U2/\Ix F1 U1 F2 U2)->
  ∃F' U',CT w a E blk (ts.set j t') vs F' U'/\Ix F U F' U'
 |[],vs,F,U,j,t,h,hj,_,_=>by simp at hj
 |x::ts,vs,F,U,0,t,h,hj,hn,hk=>by
  simp at hj;subst hj;obtain⟨v,b,F1,F2,U1,U2,rfl,rfl,rfl,h1,h2⟩:=h;obtain⟨F1',U1',a1,a2⟩:=hk v F1 U1 h1;exact⟨F1'++F2,U1'++U2,by rw [DI];exact⟨v,b,F1',F2,U1',U2,rfl,rfl,rfl,a1,h2⟩,QF hn a2 Ix.refl⟩
 |x::ts,vs,F,U,j+1,t,h,hj,hn,hk=>by
  obtain⟨v,b,F1,F2,U1,U2,rfl,rfl,rfl,h1,h2⟩:=h;obtain⟨F2',U2',a1,a2⟩:=Xk h2 (by simpa using hj) (Bm.1 hn).2.1 hk;exact⟨F1++F2',U1++U2',by rw [LK];exact⟨v,b,F1,F2',U1,U2',rfl,rfl,rfl,h1,a1⟩,QF hn Ix.refl a2⟩
def z8 (E:St) (r:Root) (j:Nat) (a:List TV):St:=match E.root r with
 |some cs=>E.setRoot r (Xa cs j a)
 |none=>E
theorem iX {a:Act} {r:Root} {cs:List TV} {j e s:Nat} {b:List TV} (hr:E.root r=some cs) (hj:cs[j]?=some (.sl true e s b)) (hh:r≠ .hand) (R:Root):Cs w w a a E (E.setRoot r (Xa cs j (BH b))) blk blk R:=by
 have d:(E.setRoot r (Xa cs j (BH b))).ver=E.ver:=by cases r<;>rfl
 have f:(E.setRoot r (Xa cs j (BH b))).gen=E.gen:=by cases r<;>rfl
 have g:(Xa cs j (BH b)).length=cs.length:=by simp [Xa,hj]
 have c:∀cs0,E.root R=some cs0->∃cs1,(E.setRoot r (Xa cs j (BH b))).root R=some cs1/\∀q r1,BV cs0 q=some r1->∀i:Nat,∃r2,BV cs1 q=some r2/\(r1[i]?.isSome=true->r2[i]?.isSome=true)/\(JX r1[i]?=true->JX r2[i]?=true):=by
  intro cs0 h0;by_cases hR:R=r
  ·subst hR;rw [hr]at h0
   injection h0 with h0
   subst h0;refine⟨Xa cs j (BH b),?_,λq r1 hq i=>rG hj hq i⟩
   cases R with
   |slot n=>
    simp only [St.root,St.setRoot,Cn,BU]at hr⊢
    injection hr with hr
    congr 1
    cases hs:E.slots n with
    |one t=>
     rw [hs]at hr;simp only [SV.cells]at hr;subst hr;have:(Xa [t] j (BH b)).length=1:=g
     match hf:Xa [t] j (BH b),this with
     |[x],_=>rfl
    |agg ts=>rfl
    |tup ss=>
     rw [hs]at hr;simp only [SV.cells]at hr;subst hr;simp at hj
   |box n=>simp [St.root,St.setRoot,Cn]
   |ext n=>simp [St.root,St.setRoot,Cn]
   |hand=>exact absurd rfl hh
  refine⟨cs0,?_,λq r1 hq i=>⟨r1,hq,id,id⟩⟩;rw [<-h0];cases r<;>cases R<;>simp only [St.root,St.setRoot,Cn]<;>first
   |exact absurd rfl hh
   |rfl
   |(rw [Ax];intro e;exact hR (by rw [e]))
   |(rw [Ax];intro e;injection e with e;exact hR (by rw [e]))
   |(rw [Ax];intro e;cases e)
 constructor
 ·refine .inr ⟨by rw [d],λq i v h1 h2=>⟨h1,?_⟩,λq i ad hq h1 h2=>⟨h1,?_⟩⟩
  ·unfold St.place at h2⊢
   cases h0:E.root R with
   |none=>rw [h0]at h2;cases h2
   |some cs0=>
    rw [h0]at h2;obtain⟨cs1,k1,k2⟩:=c cs0 h0;simp only [Aa]at h2
    cases hc:BV cs0 q with
    |none=>rw [hc]at h2;cases h2
    |some r1=>
     rw [hc]at h2;obtain⟨r2,k3,_,k4⟩:=k2 q r1 hc i;rw [k1];simp only [Aa,k3];exact k4 h2
  unfold St.place at h2⊢
  cases h0:E.root R with
  |none=>rw [h0]at h2;cases h2
  |some cs0=>
   rw [h0]at h2;obtain⟨cs1,k1,k2⟩:=c cs0 h0;simp only [Aa]at h2
   cases hc:BV cs0 q with
   |none=>rw [hc]at h2;cases h2
   |some r1=>
    rw [hc]at h2;obtain⟨r2,k3,k4,_⟩:=k2 q r1 hc i;rw [k1];simp only [Aa,k3];exact k4 h2
 refine .inr ⟨by rw [f],λi ad h1 h2=>⟨h1,?_⟩⟩;unfold St.place at h2⊢
 cases h0:E.root R with
 |none=>rw [h0]at h2;cases h2
 |some cs0=>
  rw [h0]at h2;obtain⟨cs1,k1,k2⟩:=c cs0 h0;simp only [Aa]at h2;obtain⟨r2,k3,k4,_⟩:=k2 [] cs0 rfl i;rw [k1];simp only [Aa,k3];exact k4 h2
section
variable {w0:Base} {a:Act}
theorem CJ.freeze {r:Root} (h:CJ w0 FA UA N w a E blk FS US) {cs:List TV} {j e s:Nat} {c:List TV} (hr:E.root r=some cs) (hj:cs[j]?=some (.sl true e s c)) (hh:r≠ .hand):
  ∃FS' US',CJ w0 FA UA N w a (E.setRoot r (Xa cs j (BH c))) blk FS' US'/\FS' .hand=FS .hand/\US' .hand=US .hand:=by
 have x:=iX (w:=w) (a:=a) (blk:=blk) hr hj hh;have f:Xa cs j (BH c)=cs.set j (.sl false e s (BH c)):=by simp only [Xa,hj,iY]
 have l:∀v F1 U1,Cz w (.sl true e s c) v F1 U1->∃F2 U2,Cz w (.sl false e s (BH c)) v F2 U2/\Ix F1 U1 F2 U2:=λv F1 U1 h1=>wU h1 (oN.s rfl)
 have y:∃F' U',Ix (FS r) (US r) F' U'/\(∀n,r= .slot n->Ep w a (E.setRoot r (Xa cs j (BH c))) blk ((E.slots n).withCells (Xa cs j (BH c))) (a.eval (.tmp n)) F' U')/\
   (r.mem=true->∃d T F,w.heap[blk r]?=some (.cells d T (0,0))/\By w (Xa cs j (BH c)) d.toList F U'/\F'=blk r::F):=by
  cases r with
  |slot n=>
   simp only [St.root]at hr
   injection hr with hr
   have hs:=H4 x (h.slot n) (λ_ _=>rfl) (λ_ _=>rfl)
   cases g:E.slots n with
   |one t=>
    rw [g]at hr hs;simp only [SV.cells]at hr;subst hr;have z:j=0:=by
     have:=(Ag.1 hj).1;simpa using this
    subst z;simp at hj;subst hj;simp only [Ep]at hs;obtain⟨F2,U2,k1,k2⟩:=l _ _ _ hs.1;refine⟨F2,U2,k2,λm hm=>?_,λhm=>(by cases hm)⟩
    injection hm with hm
    subst hm;rw [g,f];simp only [DI,SV.withCells,Ep];exact⟨k1,λ_=>hs.2 rfl⟩
   |agg ts=>
    rw [g]at hr hs;simp only [SV.cells]at hr;subst hr;simp only [Ep]at hs;obtain⟨vs,k0,k1⟩:=hs;obtain⟨F2,U2,k2,k3⟩:=Xk (t':= .sl false e s (BH c)) k1 hj (h.nodup _) l;refine⟨F2,U2,k3,λm hm=>?_,λhm=>(by cases hm)⟩
    injection hm with hm
    subst hm;rw [g,f];simp only [SV.withCells,Ep];rw [f]at k2;exact⟨vs,k0,k2⟩
   |tup ss=>
    rw [g]at hr;simp only [SV.cells]at hr;subst hr;simp at hj
  |hand=>exact absurd rfl hh
  |box n=>
   rcases h.box (.box n) rfl with⟨k,_⟩|⟨cs0,d,T,F,k1,k2,k3,k4⟩
   ·simp only [St.root]at hr;rw [k]at hr;cases hr
   simp only [St.root]at hr;rw [k1]at hr
   injection hr with hr
   subst hr;have i:=h.nodup (.box n);rw [k4]at i;obtain⟨o,p⟩:=Dt.1 i;obtain⟨F2,U2,k5,k6⟩:=W5 (t':= .sl false e s (BH c)) k3 hj p l;refine⟨blk (.box n)::F2,U2,?_,λm hm=>(by cases hm),λ_=>⟨d,T,F2,k2,by rw [f];exact k5,rfl⟩⟩;rw [k4];refine⟨k6.1.cons_cons _,λb hb=>?_⟩
   rcases k6.2 b hb with q|⟨q1,q2⟩
   ·exact .inl q
   refine .inr ⟨by simp [q1],λhc=>?_⟩
   rcases BB.1 hc with rfl|hc
   ·exact o q1
   exact q2 hc
  |ext n=>
   rcases h.box (.ext n) rfl with⟨k,_⟩|⟨cs0,d,T,F,k1,k2,k3,k4⟩
   ·simp only [St.root]at hr;rw [k]at hr;cases hr
   simp only [St.root]at hr;rw [k1]at hr
   injection hr with hr
   subst hr;have i:=h.nodup (.ext n);rw [k4]at i;obtain⟨o,p⟩:=Dt.1 i;obtain⟨F2,U2,k5,k6⟩:=W5 (t':= .sl false e s (BH c)) k3 hj p l;refine⟨blk (.ext n)::F2,U2,?_,λm hm=>(by cases hm),λ_=>⟨d,T,F2,k2,by rw [f];exact k5,rfl⟩⟩;rw [k4];refine⟨k6.1.cons_cons _,λb hb=>?_⟩
   rcases k6.2 b hb with q|⟨q1,q2⟩
   ·exact .inl q
   refine .inr ⟨by simp [q1],λhc=>?_⟩
   rcases BB.1 hc with rfl|hc
   ·exact o q1
   exact q2 hc
 obtain⟨F',U',hl,h0,h2⟩:=y
 have u:∀b∈F',b∈FS r:=λb hb=>hl.1.subset hb
 refine⟨Cn FS r F',Cn US r U',?_,by rw [Br (λe=>hh e.symm)],by rw [Br (λe=>hh e.symm)]⟩;have hF:∀R b,b∈Cn FS r F' R->b∈FS R:=by
  intro R b hb;by_cases hR:R=r
  ·subst hR;rw [BS]at hb;exact u b hb
  rw [Br hR]at hb;exact hb
 have hU:∀R b,b∈Cn US r U' R->b∈US R\/(R=r/\b∈FS r/\b∉F'):=by
  intro R b hb;by_cases hR:R=r
  ·subst hR;rw [BS]at hb
   rcases hl.2 b hb with q|⟨q1,q2⟩
   ·exact .inl q
   exact .inr ⟨rfl,q1,q2⟩
  rw [Br hR]at hb;exact .inl hb
 constructor
 ·intro n;by_cases hn:r= .slot n
  ·subst hn;rw [BS,BS];have:=h0 n rfl;simpa only [St.setRoot,Cn,BU]using this
  rw [Br (λe=>hn e.symm),Br (λe=>hn e.symm)];have h1:(E.setRoot r (Xa cs j (BH c))).slots n=E.slots n:=by
   cases r with
   |slot m=>
    simp only [St.setRoot,Cn];rw [Ax];intro e;exact hn (by rw [e])
   |_=>rfl
  rw [h1];exact H4 x (h.slot n) (λ_ _=>rfl) (λ_ _=>rfl)
 ·intro R hm;by_cases hR:R=r
  ·subst hR;right;obtain⟨d,T,F,k1,k2,k3⟩:=h2 hm;refine⟨_,d,T,F,?_,k1,by rw [BS];exact k2,by rw [BS,k3]⟩
   cases R with
   |slot n=>cases hm
   |hand=>cases hm
   |box n=>simp [St.setRoot,Cn]
   |ext n=>simp [St.setRoot,Cn]
  rw [Br hR,Br hR];have h1:(E.setRoot r (Xa cs j (BH c))).boxes R=E.boxes R:=by
   cases r<;>simp only [St.setRoot,Cn]<;>first
    |rfl
    |(rw [Ax hR])
  rw [h1];exact h.box R hm
 ·have:(E.setRoot r (Xa cs j (BH c))).boxes .hand=E.boxes .hand:=by
   cases r<;>simp only [St.setRoot,Cn]<;>first
    |exact absurd rfl hh
    |rfl
    |(rw [Ax (by simp)])
  rw [this];exact h.nohand
 ·intro R;by_cases hR:R=r
  ·subst hR;rw [BS];exact hl.1.nodup (h.nodup R)
  rw [Br hR];exact h.nodup R
 ·exact λR S h3 b hb hb'=>h.dis R S h3 b (hF R b hb) (hF S b hb')
 ·intro R S b hb hb'
  rcases hU S b hb' with q|⟨rfl,q1,q2⟩
  ·exact h.disU R S b (hF R b hb) q
  by_cases hR:R=S
  ·subst hR;rw [BS]at hb;exact q2 hb
  exact h.dis R S hR b (hF R b hb) q1
 ·exact λR b hb=>h.inF R b (hF R b hb)
 ·intro R b hb
  rcases hU R b hb with q|⟨rfl,q1,_⟩
  ·exact h.inU R b q
  obtain⟨q2,q3⟩:=h.inF R b q1;exact⟨.inr q2,q3⟩
 ·exact h.disA
 ·exact h.os
 ·exact h.tape
 ·exact h.output
 ·exact h.size
 ·exact h.keep
 ·exact h.len
 ·exact h.nodef
 ·exact h.xblk
 ·rw [Eb];exact h.ambB
 ·rw [Eb];exact h.ambI
 ·rw [H7];exact h.frz
 ·exact h.ambF
 rw [Eb];exact h.pin
end
theorem rI {r:Root} (h:PP E r j=some row):∃cs e s,E.root r=some cs/\cs[j]?=some (.sl true e s row)/\z8 E r j (BH row)=E.setRoot r (Xa cs j (BH row)):=by
 obtain⟨cs,e,s,h1,h2,_⟩:=PO h;exact⟨cs,e,s,h1,h2,by unfold z8;rw [h1]⟩
def V4:Root->Bool
 | .hand=>false
 |_=>true
theorem RD {r:Root} (h:V4 r=true):r≠ .hand:=by rintro rfl;cases h
theorem RW.fz (r:Root) (j:Nat) (hs:BH row=row') (h:RW P N ops i (z8 E r j row') Q) (ho:PP E r j=some row:=by kernel_rfl) (hh:V4 r=true:=by rfl):RW P N ops i E Q:=by
 intro w0 FA UA w a blk FS US hr hF hU;obtain⟨cs,e,s,h1,h2,h3⟩:=rI ho;obtain⟨FS',US',k1,k2,k3⟩:=hr.freeze h1 h2 (RD hh);rw [<-hs,h3]at h;exact h _ _ _ _ _ _ _ _ k1 (by rw [k2,hF]) (by rw [k3,hU])
theorem KW.fz {ts:List Nat} (r:Root) (j:Nat) (hs:BH row=row') (h:KW P N ops ts dn (z8 E r j row') Q) (ho:PP E r j=some row:=by kernel_rfl) (hh:V4 r=true:=by rfl):KW P N ops ts dn E Q:=by
 intro hq hc w0 FA UA w a blk FS US hr hF hU;obtain⟨cs,e,s,h1,h2,h3⟩:=rI ho;obtain⟨FS',US',k1,k2,k3⟩:=hr.freeze h1 h2 (RD hh);rw [<-hs,h3]at h;exact h hq hc _ _ _ _ _ _ _ _ k1 (by rw [k2,hF]) (by rw [k3,hU])
theorem Wp.fz {c:Code} (r:Root) (j:Nat) (hs:BH row=row') (h:Wp P N c (z8 E r j row') Q) (ho:PP E r j=some row:=by kernel_rfl) (hh:V4 r=true:=by rfl):Wp P N c E Q:=by
 intro w0 FA UA w a blk FS US hr hF hU;obtain⟨cs,e,s,h1,h2,h3⟩:=rI ho;obtain⟨FS',US',k1,k2,k3⟩:=hr.freeze h1 h2 (RD hh);rw [<-hs,h3]at h;exact h _ _ _ _ _ _ _ _ k1 (by rw [k2,hF]) (by rw [k3,hU])
def St.fzs (E:St) (f:Option Nat):St:={E with fz:=f}
theorem gJ {a:Act} {f:Option Nat} (r:Root):Cs w w a a E (E.fzs f) blk blk r:=by
 have hp:∀q j,(E.fzs f).place r q j=E.place r q j:=λq j=>by cases r<;>rfl
 exact⟨.inr ⟨rfl,λq j v h1 h2=>⟨h1,by rw [hp];exact h2⟩,λq j ad _ h1 h2=>⟨h1,by rw [hp];exact h2⟩⟩,.inr ⟨rfl,λj ad h1 h2=>⟨h1,by rw [hp];exact h2⟩⟩⟩
theorem CJ.fzs {w0:Base} {a:Act} (h:CJ w0 FA UA N w a E blk FS US) (f:Option Nat) (hf:∀n,f=some n->s8 w0 a n):CJ w0 FA UA N w a (E.fzs f) blk FS US where
 slot:=λn=>H4 gJ (h.slot n) (λ_ _=>rfl) (λ_ _=>rfl)
 box:=h.box
 nohand:=h.nohand
 nodup:=h.nodup
 dis:=h.dis
 disU:=h.disU
 inF:=h.inF
 inU:=h.inU
 disA:=h.disA
 os:=h.os
 tape:=h.tape
 output:=h.output
 size:=h.size
 keep:=h.keep
 len:=h.len
 nodef:=h.nodef
 xblk:=h.xblk
 ambB:=h.ambB
 ambI:=h.ambI
 frz:=hf
 ambF:=h.ambF
 pin:=h.pin
theorem lD (n:Nat):(2*n+1)/2=n:=by omega
theorem lC (n:Nat):¬(2*n+1) %2=0:=by omega
def uS (o:Oper):Bool:=match o.op with
 | .buildSlice t len parts=>Nat.beq len 0&&Nat.beq parts.size 0
 |_=>false
theorem wS {a:Act} {nx:Next} {w':World} {o:Oper} (hb:uS o=true) (hd:o.dst=some d) (hN:d<N) (hs:C8 P N false E o=some E') (hr:(execOp a.eval o).run P w= .ok nx w'):∃B,nx= .value (.slice B 0 0):=by
 unfold uS at hb;split at hb
 ·rename_i t len parts ho;rw [Ak]at hb;have h1:=B3 hb.1;have h2:=B3 hb.2;subst h1;have h3:parts= #[]:=Array.eq_empty_of_size_eq_zero h2;subst h3;simp only [C8,hd,Aw hN,ho,KH]at hs;split at hs
  ·rename_i e hu;split at hs
   ·rename_i zs ss hz b;obtain⟨i,z,hi,c,f,g⟩:=IZ (w:=w) hz;simp [execOp,ho,Instr.buildSlice,run_underlying hu,sizeOf,typeInfo,hi,newRow,Instr.fill]at hr;obtain⟨hr,_⟩:=hr;exact⟨_,hr.symm⟩
   cases hs
  cases hs
 cases hb
def o8 (x:Operand):Nat:=match x with
 | .tmp n=>n
 |_=>0
theorem jV {ts:List Nat} (h:KW P N ops ts (i::dn) (((C8 P N false E (oA ops i)).getD E).fzs (some (2*((oA ops i).dst.getD 0)+1))) Q) (hs:(C8 P N false E (oA ops i)).isSome=true:=by kernel_rfl) (hk:(Pq P ops E i&&uS (oA ops i)&&Gc N (oA ops i))=true:=by kernel_rfl):KB P N ops ts dn i E Q:=by
 have hs':=getD_some (a:=E) hs;generalize hE:(C8 P N false E (oA ops i)).getD E=E' at h hs';simp only [Ak]at hk;obtain⟨h1,h2⟩:=Hs hk.1.1;obtain⟨d,h3,_,h4⟩:=EC hk.2;rw [h3]at h;simp only [BA]at h;have b:kp (oA ops i)=true:=by
  have:=hk.1.2;unfold uS at this;unfold kp;split at this
  ·rename_i ho;rw [ho]
  cases this
 intro w0 FA UA w a blk FS US hr hF hU;unfold wpOp;simp only [If h1,Cp hr h2,BU];obtain⟨nx,w',v,blk',FS',US',k1,k2,k3,k4,k5,k6⟩:=Pz hr hF hU hs';obtain⟨B,hB⟩:=wS (N:=N) hk.1.2 h3 h4 hs' k1;have hv:v= .slice B 0 0:=by
  rcases k2 with k2|⟨k2,_⟩
  ·rw [hB]at k2;injection k2 with k2;exact k2.symm
  rw [hB]at k2;cases k2
 refine .inl ?_;unfold Oper.wp;rw [k1,hB];refine⟨λ_=>k6 b,_,blk',FS',US',h,?_,k4,k5⟩;rw [hv]at k3;refine k3.fzs _ (λn hn=>?_)
 injection hn with hn
 subst hn;unfold s8;rw [Ax (lC d),lD d,h3];refine⟨B,?_⟩;have:=k3.len;simp only [Act.eval,Act.put];rw [Eo];have hl:=hr.len;have c:d<a.tmps.size:=AZ h4 hl;simp [Array.getElem?_setIfInBounds_self,c]
theorem KB.a {ts:List Nat} (hs:C8 P N false E (oA ops i)=some E') (h:KW P N ops ts (i::dn) (E'.fzs none) Q) (hk:(Pq P ops E i&&uT (oA ops i)&&Nat.beq (GK (oA ops i)).1 (GK (oA ops i)).2.1&&Gc N (oA ops i))=true:=by kernel_rfl) (hx:(GK (oA ops i)).2.2.1= .tmp (o8 (GK (oA ops i)).2.2.1):=by kernel_rfl) (hz:E.fz=some (2*o8 (GK (oA ops i)).2.2.1+1):=by kernel_rfl):KB P N ops ts dn i E Q:=by
 simp only [Ak]at hk;obtain⟨⟨⟨h0,h5⟩,h6⟩,h7⟩:=hk;obtain⟨h1,h2⟩:=Hs h0;obtain⟨d,h3,_,h4⟩:=EC h7;have c:=B3 h6;have ho:=lN h5;rw [<-c]at ho;intro w0 FA UA w a blk FS US hr hF hU;unfold wpOp;simp only [If h1,Cp hr h2,BU];have he:LR P E d (GK (oA ops i)).1 (GK (oA ops i)).2.2.1 (GK (oA ops i)).2.2.2=some E':=by
  unfold C8 at hs;rw [h3]at hs;simpa only [Aw h4,ho,BU]using hs
 obtain⟨nx,w',v,blk',FS',US',k1,k2,k3,k4,k5,_,k6⟩:=Tu hr hF hU ho h3 h4 he;have b:=hr.frz _ hz;unfold s8 at b;rw [Ax (lC _),lD,<-hx]at b;obtain⟨B,hB⟩:=b;refine .inl ?_;unfold Oper.wp;rw [k1]
 rcases k2 with rfl|⟨rfl,rfl⟩
 ·exact⟨λ_=>k6 B hB,_,blk',FS',US',h,k3.fzs none (λn hn=>by cases hn),k4,k5⟩
 exact⟨λ_=>k6 B hB,_,blk',FS',US',h,k3.fzs none (λn hn=>by cases hn),k4,k5⟩
def rm (k:IntKind) (a b:Int):Option Int:=if b=0 then none else some (a.tmod b)
def yF (k:IntKind) (a b:Int):Int:=k.wrap (BitVec.ofInt k.bits a&&&BitVec.ofInt k.bits b).toNat
def bxo (k:IntKind) (a b:Int):Int:=k.wrap (BitVec.ofInt k.bits a^^^BitVec.ofInt k.bits b).toNat
def vS (P:Program) (E:St) (o:Oper) (k:IntKind) (q:Bool):Option (Int×Int):=match o.op with
 | .binOp op t x y _=>bif(match op with| .rem=>!q| .quo=>q|_=>false)then(match E.cell1 P t x,E.cell1 P t y with
  |some (.int k' a),some (.int k'' b)=>bif decide (k'=k)&&decide (k''=k)then some (a,b)else none
  |_,_=>none)else none
 |_=>none
theorem prm {o:Oper} {a b v:Int} (hx:rm k a b=some v) (hc:vS P E o k false=some (a,b):=by kernel_rfl):Bh P E o=some (.one (.int k v)):=by
 unfold vS at hc;split at hc
 ·rename_i op t x y t' ho;cases op<;>simp only [AJ,Af,Ac,reduceCtorEq]at hc;split at hc
  ·rename_i k' a' k2 b' h1 h2
   cases hk:(decide (k'=k)&&decide (k2=k))with
   |false=>rw [hk]at hc;cases hc
   |true=>
    rw [hk]at hc;simp only [Af]at hc
    injection hc with hc
    injection hc with hc1 hc2
    rw [Ak]at hk;have e1:=Jx hk.1;have e2:=Jx hk.2;subst hc1 hc2 e1 e2;unfold rm at hx;split at hx
    ·cases hx
    rename_i hb
    injection hx with hx
    subst hx;simp only [Bh,ho,h1,h2,TZ,BU,UO,qY,Ax hb,Bz]
  cases hc
 cases hc
def b9 (P:Program) (f:FuncId) (as:List AV) (a:List TV):Prop:=
 ∀(w:World) (vs:List Value) (FA UA:List Nat),JO w as vs FA UA->FA.Nodup->(∀b∈FA,b∉UA)->(∀b∈FA++UA,b<w.heap.size)->
  Calls P f vs.toArray w λe w'=>∃v F U G V,e= .returned v/\sL w w' FA UA (.tup []) [.ext a] [v] (.tuple #[]) F U G V
theorem gkp {f:FuncId} {c:Code} {cells:List TV} (hf:P.funcs[f]?=some fn) (hb:fn.body=some c) (hN:fn.ntmps=N) (h:Wp P N c (D7 as) λe E=>(e= .normal\/e= .ret)/\∃t r,fn.results.toList=[.tmp t]/\E.ptr? (.tmp t)=some (r,[],0)/\r.mem=true/\E.boxes r=some cells) (l:cells.isEmpty=false:=by rfl):b9 P f as cells:=by
 subst hN;intro w vs FA UA ha m j o;obtain⟨blk,FS,US,hr,hF,hU⟩:=Qm (N:=fn.ntmps) ha m j o (A:=Pk.none) (fz:=none) trivial (λb hb=>by cases hb);refine calls_of_wp hf hb (wp_mono (h _ _ _ _ _ _ _ _ hr hF hU) ?_);rintro e a w' ⟨E,blk',FS',US',⟨he,t,r,h1,h2,h3,h4⟩,k3,h5,h6⟩;obtain⟨u,ad,d,p⟩:=JG k3 h2;have s:ad=⟨blk' r,0,none⟩:=by
  cases r with
  |slot n=>cases h3
  |hand=>cases h3
  |box n=>simp only [pa]at d;injection d with d;rw [<-d];simp [Addr.add]
  |ext n=>simp only [pa]at d;injection d with d;rw [<-d];simp [Addr.add]
 obtain⟨g,T,F3,b2,b3,b4⟩:∃g T F3,w'.heap[blk' r]?=some (.cells g T (0,0))/\By w' cells g.toList F3 (US' r)/\FS' r=blk' r::F3:=by
  rcases k3.box r h3 with⟨q,_⟩|⟨cs,g,T,F3,q1,q2,q3,q4⟩
  ·rw [h4]at q;cases q
  rw [h4]at q1
  injection q1 with q1
  subst q1;exact⟨g,T,F3,q2,q3,q4⟩
 have hne':cells≠ []:=by rintro rfl;cases l
 have k:(fn.results.toList.mapM (Nj P a.tmps)).run P w'= .ok [a.eval (.tmp t)] w':=by
  rw [h1,List.mapM_cons];simp [Nj,Act.eval]
 have i:a.defers=[]/\∃v,(results fn a.tmps).run P w'= .ok v w'/\∃v' F U G V,Ending.returned v= .returned v'/\sL w w' FA UA (.tup []) [.ext cells] [v'] (.tuple #[]) F U G V:=by
  refine⟨k3.nodef,_,MN k,a.eval (.tmp t),[],[],FS' r,US' r,by simp,?_⟩
  exact{
   res:=by simp only [UY];exact⟨[],rfl,by simp [NX]⟩
   fin:=⟨_,[],FS' r,[],US' r,[],rfl,by simp,by simp,⟨blk' r,g,T,F3,by rw [p,s],b2,b3,b4,hne'⟩,⟨rfl,rfl,rfl⟩⟩
   nodup:=by simpa using k3.nodup r
   dis:=λb hb hb'=>k3.disU r r b (by simpa using hb) (by simpa using hb')
   inF:=λb hb=>k3.inF r b (by simpa using hb)
   inU:=λb hb=>k3.inU r b (by simpa using hb)
   os:=k3.os
   tape:=k3.tape
   output:=k3.output
   size:=k3.size
   keep:=λb hb hF=>k3.keep b hb hF (λe=>by cases e)}
 rcases he with rfl|rfl
 ·exact i
 exact i
section
variable {w0:Base} {a:Act}
theorem rY {f:FuncId} {l:List (Bool×TypeId×Operand)} {ss:List (Option SV)} {K:Act->World->Prop} {Q:Exit->Act->World->Prop} (h:CJ w0 FA UA N w a E blk FS US) (hF:FS .hand=[]) (hU:US .hand=[]) {o:Oper} {args:Array Operand} {tys:Array TypeId} (ho:o.op= .call {callee:= .value (.func f),args:=args,argTypes:=tys}) (hf:Ye P f) (hd:o.dst=some d) (hN:d<N) (hl:l.map (λx=>x.2.2)=args.toList) {i:List TV} (hg:b9 P f as i) {c:Bool} (h1:Lq P E l=some (ss,E1)) (h2:I2 P E1 l ss=some (as,c)) (h3:c=true\/AK i=false) (hK:∀w' v blk' FS' US',CJ w0 FA UA N w' (a.put (some d) v) (E1.newBox d i) blk' FS' US'->FS' .hand=[]->US' .hand=[]->K (a.put (some d) v) w'):o.wp P a w K Q:=by
 obtain⟨FS1,US1,F,U,k1,k2,k3,k4,_⟩:=O3 h h1;rw [hF,A5]at k3;rw [hU,A5]at k4;obtain⟨U',k5,k6⟩:=Kb k2 k1 h2;have a0:l.map (λx=>a.eval x.2.2)=(args.map a.eval).toList:=by
  rw [NS,<-hl,EY];rfl
 rw [a0]at k5;have p:∀b∈F,b∉U':=by
  intro b hb hb';rw [<-k3]at hb
  rcases k6 b hb' with h4|⟨r,h4⟩|⟨_,r,h5,h4⟩
  ·rw [<-k4]at h4;exact k2.disU .hand .hand b hb h4
  ·exact k2.disU .hand r b hb h4
  exact k2.dis .hand r (ED h5) b hb h4
 have k:=hg w _ F U' k5 (by rw [<-k3];exact k2.nodup .hand) p (by
  intro b hb
  rcases Ai.1 hb with hb|hb
  ·exact(k2.inF .hand b (by rw [k3];exact hb)).2
  rcases k6 b hb with h4|⟨r,h4⟩|⟨_,r,h5,h4⟩
  ·exact(k2.inU .hand b (by rw [k4];exact h4)).2
  ·exact(k2.inU r b h4).2
  exact(k2.inF r b h4).2)
 unfold Oper.wp;rw [HG ho hf];simp only [Oper.upon];rw [Pb]at k;refine Calls.mono k ?_;rintro e w' ⟨v,Fr,Ur,G,V,rfl,g⟩;obtain⟨v0,vs0,G1,G2,V1,V2,t,rfl,rfl,⟨b0,a1,T,F0,rfl,e1,e2,rfl,e3⟩,⟨rfl,rfl,rfl⟩⟩:=g.fin
 injection t with t _
 subst t;have y:=g.res;simp only [UY,NX]at y;obtain⟨_,_,_,rfl,rfl⟩:=y;have z:=g.nodup;simp only [A5,Az]at z;have a2:∀b∈b0::F0,(b∈FS1 .hand\/w.heap.size<=b)/\b<w'.heap.size:=by
  intro b hb;have:=g.inF b (by simpa using hb);rw [k3];exact this
 have h0:∀b∈V1,(∃s,b∈US1 s)\/((b∈FS1 .hand\/w.heap.size<=b)/\b∉b0::F0/\b<w'.heap.size):=by
  intro b hb;obtain⟨h4,h5⟩:=g.inU b (by simpa using hb)
  have m:b∉b0::F0:=λe=>g.dis b (by simpa using e) (by simpa using hb)
  rcases h4 with h4|h4|h4
  ·rcases k6 b h4 with h6|h6|⟨h6,r,h7,h8⟩
   ·exact .inl ⟨.hand,by rw [k4];exact h6⟩
   ·exact .inl h6
   rcases h3 with h3|h3
   ·rw [h3]at h6;cases h6
   have:=JF e2 h3;subst this;cases hb
  ·exact .inr ⟨.inl (by rw [k3];exact h4),m,h5⟩
  exact .inr ⟨.inr h4,m,h5⟩
 have j:∀b,b<w.heap.size->b∉FS1 .hand->w'.heap[b]?=w.heap[b]? :=λb hb u=>g.keep b hb (by rw [<-k3];exact u)
 let E2:St:={E1 with boxes:=Cn E1.boxes (.box d) (some i),ver:=Cn E1.ver (.box d) (E1.ver (.box d)+1),gen:=Cn E1.gen (.box d) (E1.gen (.box d)+1)}
 let blk1:=Cn blk (.box d) b0
 have a3:Root.box d≠Root.hand:=by simp
 have a4:∀s,Cs w w' a a E1 E2 blk blk1 s:=by
  intro s;by_cases hs:s= .box d
  ·subst hs;exact⟨.inl (by simp [E2,Cn]),.inl (by simp [E2,Cn])⟩
  have hv:E2.ver s=E1.ver s:=by simp [E2,Cn,hs]
  have hg:E2.gen s=E1.gen s:=by simp [E2,Cn,hs]
  by_cases hh:s= .hand
  ·subst hh;exact F7 hv hg (by simp [St.root,k2.nohand])
  refine DS k2 hv hg ?_ (λ_ _=>rfl) (λ_=>by simp [blk1,Cn,hs]) (λb hb=>j b (k2.inF s b hb).2 (k2.dis s .hand hh b hb)) (λb hb=>j b (k2.inU s b hb).2 (λe=>k2.disU .hand s b e hb));cases s<;>simp_all [E2,St.root,Cn]
 have g1:=k2.two (w':=w') (a':=a) (E':=E2) (blk':=blk1) (r1:= .box d) (r2:= .hand) (L1:=b0::F0) (L2:=[]) (V1:=V1) (V2:=[]) a3
  (by simpa using z)
  (λb hb=>by
   have hb':b∈b0::F0:=by simpa using hb
   obtain⟨q1,q2⟩:=a2 b hb'
   exact⟨.inr q1,q2⟩)
  (λb hb=>by
   have hb':b∈V1:=by simpa using hb
   rcases h0 b hb' with q|⟨q1,q2,q3⟩
   ·exact .inl q
   exact .inr ⟨.inr q1,by simpa using q2,q3⟩)
  g.size g.os g.tape g.output (λb hb _ u=>j b hb u) a4
  (λn _ _=>⟨rfl,rfl⟩)
  (λs _ hs _=>⟨by simp [E2,Cn,hs],by simp [blk1,Cn,hs]⟩)
  (.inr ⟨i,a1,T,F0,by simp [E2,Cn],by simp [blk1,Cn,e1],e2,by simp [blk1,Cn]⟩)
  trivial (by simp [E2,Cn,k2.nohand]) k2.len k2.nodef (hfz:=λn hn=>k2.frz n hn)
 have a5:Ep w' a E2 blk1 (.one (.ptr (.box d) (E2.gen (.box d)) [] 0)) (.pointer (some ⟨b0,0,none⟩)) [] []:=by
  have h9:E2.stamp (.box d) []=E2.gen (.box d):=rfl;rw [<-h9];refine SD ?_ ?_
  ·cases hc:i with
   |nil=>exact absurd hc e3
   |cons x xs=>simp [St.place,St.root,E2,Cn,BV,hc]
  simp [pa,blk1,Cn,Addr.add]
 have g2:=g1.put (d:=d) hN a5 X5.none;have:=hK w' _ blk1 _ _ g2 (by rw [Br (by simp),BS]) (by rw [Br (by simp),BS]);rw [hd];exact this
end
theorem AAn {l:List AV} {x:Option α} (h:x.bind kk=some r) {f:α->List TV} (g:∀v,x=some v->b9 P (NL (oA ops i)) l (f v)) (hk:∀v,x=some v->kk v=some r->RW P N ops (i+1) ((sW P E (oA ops i) 0).newBox ((oA ops i).dst.getD 0) (f v)) Q) (b:XA P E (oA ops i) 0=some l:=by kernel_rfl) (hc:sT P E (oA ops i) 0=true:=by kernel_rfl) (ho:(Pq P ops E i&&Rd P N (oA ops i)&&Gc N (oA ops i))=true:=by kernel_rfl):RW P N ops i E Q:=by
 obtain⟨v,hv,h⟩:=Ar.1 h;simp only [Ak]at ho;obtain⟨h1,h2⟩:=Hs ho.1.1;obtain⟨args,tys,h3,h4,h5,h6⟩:=MZ ho.1.2;obtain⟨d,h7,_,h8⟩:=EC ho.2;have e:=hk v hv h;rw [h7]at e;simp only [BA]at e;unfold RW;rw [Gg h1];intro w0 FA UA w a blk FS US hr hF hU;simp only [wpList,Cp hr h2,BU];unfold XA sT shA at*;unfold sW at e
 cases hm:mvA P E (oA ops i) 0 with
 |none=>rw [hm]at b;cases b
 |some z=>
  obtain⟨ss,E1⟩:=z;rw [hm]at b hc e;simp only at b hc e
  cases hs:I2 P E1 (bits 0 (FX (oA ops i))) ss with
  |none=>rw [hs]at b;cases b
  |some y=>
   obtain⟨as',c⟩:=y;rw [hs]at b hc;simp only [Bz]at b hc
   injection b with b
   subst b;refine .inl (rY hr hF hU h3 h4 h7 h8 (l:=bits 0 (FX (oA ops i))) (by rw [NO,h6]) (g v hv) hm hs (.inl hc) λw' v' blk' FS' US' k1 k2 k3=>e _ _ _ _ _ _ _ _ k1 k2 k3)
theorem rsp {rs:List ResultVar} {a:List TV} (t:Nat) (h1:rs=[.tmp t]) (h:(match E.ptr? (.tmp t)with
  |some (r,[],0)=>bif r.mem then E.boxes r else none
  |_=>none)=some a):∃t r,rs=[.tmp t]/\E.ptr? (.tmp t)=some (r,[],0)/\r.mem=true/\E.boxes r=some a:=by
 split at h
 ·rename_i r hr
  cases hm:r.mem with
  |false=>rw [hm]at h;cases h
  |true=>rw [hm]at h;exact⟨t,r,h1,hr,hm,h⟩
 cases h
def yY (N:Nat) (E:St) (o:Oper):Option St:=match o.op,o.dst with
 | .extract t ix,some d=>bif Nat.blt d N then M2 E d t ix else none
 |_,_=>none
theorem wL {w0:Base} {a:Act} (h:CJ w0 FA UA N w a E blk FS US) (hF:FS .hand=[]) (hU:US .hand=[]) {o:Oper} (he:yY N E o=some E'):
  ∃v blk' FS' US',(∀w2,(execOp a.eval o).run P w2= .ok (.value v) w2)/\CJ w0 FA UA N w (a.put o.dst v) E' blk' FS' US'/\FS' .hand=[]/\US' .hand=[]:=by
 unfold yY at he;split at he
 ·rename_i t ix d ho hd
  cases hN:Nat.blt d N with
  |false=>rw [hN]at he;cases he
  |true=>
   rw [hN]at he;simp only [Af]at he;have hN':d<N:=by simpa [Bl]using hN
   obtain⟨nx,w',v,blk',FS',US',k1,k2,k3,k4,k5,_⟩:=Ew.extract (P:=P) h hF hU ho hd hN' he;have b:∃x,∀w2,(execOp a.eval o).run P w2= .ok (.value x) w2:=by
    unfold M2 at he;split at he
    ·rename_i n;split at he
     ·rename_i ss c;split at he
      ·rename_i s e;have hs:=h.slot n;rw [c]at hs;simp only [Ep]at hs;obtain⟨vs,f,hx⟩:=hs;obtain⟨v,A,B,C,D,F1,U1,h1,h2,h3,h4,h5⟩:=VT ix hx e;exact⟨v,λw2=>by simp [execOp,ho,Instr.extract,f,h1]⟩
      cases he
     cases he
    cases he
   obtain⟨x,hx⟩:=b;rw [hx w]at k1
   injection k1 with q1 q2
   subst q1 q2
   rcases k2 with k2|⟨k2,_⟩
   ·injection k2 with k2
    subst k2;exact⟨_,blk',FS',US',hx,k3,k4,k5⟩
   cases k2
 cases he
theorem OZ {ts:List Nat} (i:Nat) (h:KW P N ops ts (i::dn) ((yY N E (oA ops i)).getD E) Q) (hs:(yY N E (oA ops i)).isSome=true:=by kernel_rfl) (hk:(Pq P ops E i&&f9 ops ts dn i)=true:=by kernel_rfl):KW P N ops ts dn E Q:=by
 have hs':=getD_some (a:=E) hs;generalize hE:(yY N E (oA ops i)).getD E=E' at h hs';simp only [Ak,f9]at hk;obtain⟨h1,h3,h4⟩:=hk;obtain⟨h5,h6⟩:=Hs h1;unfold KW at h⊢;rw [SN (i:=i) h3];intro hQ hc w0 FA UA w a blk FS US k1 k2 k3;obtain⟨e1,e2,e3,e4,e5⟩:=Te h4;obtain⟨v,blk',FS',US',g1,g2,g3,g4⟩:=wL (P:=P) k1 k2 k3 hs';refine L3 (v:=v) (n:=ops.size) (If h5) (Region.noSelect_spec e1) (λc a w hx=>?_) e4 e5 _ _ a w hc (Region.free_spec (If h5) e2) e3 (.inl ⟨Cp k1 h6,λw2 _=>g1 w2⟩) ?_
 ·obtain⟨E',blk',FS',US',m1,_⟩:=hx;exact(hQ c E' m1).elim
 exact h hQ (Kv hc e3) _ _ _ _ _ _ _ _ g2 g3 g4
def bW (P:Program) (E:St) (o:Oper) (s:SV):Prop:=∀(N:Nat) (w0:Base) (FA UA:List Nat) (w:World) (a:Act) (blk:Root->Nat) (FS US:Root->List Nat),CJ w0 FA UA N w a E blk FS US->EH P w a E blk FS US o s
theorem AA3 (hp:bW P E (oA ops i) s) (h:RW P N ops (i+1) (E.put (oA ops i).dst s) Q) (hk:(Pq P ops E i&&Gc N (oA ops i))=true:=by kernel_rfl):RW P N ops i E Q:=by
 rw [Ak]at hk;obtain⟨h1,h2⟩:=Hs hk.1;obtain⟨d,h3,_,h4⟩:=EC hk.2;rw [h3]at h;unfold RW;rw [Gg h1];intro w0 FA UA w a blk FS US hr hF hU;simp only [wpList,Cp hr h2,BU];exact .inl ((Kz hr hF hU (hp _ _ _ _ _ _ _ _ _ hr) h3 h4).wp λw' v blk' FS' US' k1 k2 k3 _=>h _ _ _ _ _ _ _ _ k1 k2 k3)
theorem ABB (hp:bW P E (oA ops i) s) (h:SW P N ops m (i+1) (E.put (oA ops i).dst s) K) (hk:(Pq P ops E i&&Gc N (oA ops i)&&Nat.blt i m)=true:=by kernel_rfl):SW P N ops m i E K:=by
 simp only [Ak]at hk;obtain⟨h1,h2⟩:=Hs hk.1.1;obtain⟨d,h3,_,h4⟩:=EC hk.1.2;rw [h3]at h;unfold SW;rw [OP h1 hk.2];intro w0 FA UA w a blk FS US k1 k2 k3;obtain⟨v,U,g1,g2,g3⟩:=hp _ _ _ _ _ _ _ _ _ k1;have hr:=g1 w (λr _=>⟨λ_ _=>rfl,λ_ _=>rfl⟩);simp only [wpStill,Cp k1 h2,BU,Oper.still,hr,Oper.stillUpon_value];rw [h3];refine h _ _ _ _ _ _ _ _ (k1.put h4 g2 (NJ k1 g3 _)) ?_ ?_
 ·rw [Br (by simp),k2]
 rw [Br (by simp),k3]
theorem ABC {ts:List Nat} (i:Nat) (hp:bW P E (oA ops i) s) (h:KW P N ops ts (i::dn) (E.put (oA ops i).dst s) Q) (hk:(Pq P ops E i&&Gc N (oA ops i)&&f9 ops ts dn i)=true:=by kernel_rfl):KW P N ops ts dn E Q:=by
 simp only [Ak,f9]at hk;obtain⟨⟨h1,h2⟩,h3,h4⟩:=hk;obtain⟨h5,h6⟩:=Hs h1;obtain⟨d,h7,_,h8⟩:=EC h2;unfold KW at h⊢;rw [SN (i:=i) h3];rw [h7]at h;intro hQ hc w0 FA UA w a blk FS US k1 k2 k3;obtain⟨e1,e2,e3,e4,e5⟩:=Te h4;obtain⟨v,U,g1,g2,g3⟩:=hp _ _ _ _ _ _ _ _ _ k1;refine L3 (v:=v) (n:=ops.size) (If h5) (Region.noSelect_spec e1) (λc a w hx=>?_) e4 e5 _ _ a w hc (Region.free_spec (If h5) e2) e3 (.inl ⟨Cp k1 h6,λw2 e=>?_⟩) ?_
 ·obtain⟨E',blk',FS',US',m1,_⟩:=hx;exact(hQ c E' m1).elim
 ·exact g1 w2 (λr hr=>⟨λb hb=>e.2 b (k1.inF r b hb).2,λb hb=>e.2 b (k1.inU r b hb).2⟩)
 rw [h7];refine h hQ (Kv hc e3) _ _ _ _ _ _ _ _ (k1.put h8 g2 (NJ k1 g3 _)) ?_ ?_
 ·rw [Br (by simp),k2]
 rw [Br (by simp),k3]
def zZ (o:Oper):Bool:=match o.op with
 | .assign (.const _)| .move (.const _)=>true
 |_=>false
theorem pjk {o:Oper} (h:zZ o=true:=by kernel_rfl):bW P E o (.one .junk):=by
 intro N w0 FA UA w a blk FS US hr;unfold zZ at h;split at h
 ·rename_i v ho;exact⟨v,[],λw2 _=>by simp [execOp,ho,Act.eval],by simp [Ep,CR,TV.isJunk],by simp⟩
 ·rename_i v ho;exact⟨v,[],λw2 _=>by simp [execOp,ho,Act.eval],by simp [Ep,CR,TV.isJunk],by simp⟩
 cases h
abbrev pb (n:Nat):SV:= .one (.ptr (.box n) 0 [] 0)
abbrev px (n:Nat):SV:= .one (.ptr (.ext n) 0 [] 0)
abbrev i6 (n:Int):TV:= .int .i64 n
abbrev tb (b:Bool):TV:= .bool b
abbrev ts (s:ByteArray):TV:= .str s
abbrev rg (n:Nat):List AV:=List.replicate n .gone
theorem jr {w:β} {f:V->Option β} {a:V⊕β} (h:some (.inr w)=some a) (hk:Sum.elim f some a=some r):some w=some r:=by
 injection h with h
 subst h;exact hk
theorem jo {S:Type} {w:β} {f:V->Option β} {o:S⊕(V⊕β)} (h:some (.inr (.inr w))=some o) (hk:∀w,o= .inr (.inr w)->Sum.elim f some (.inr w)=some r):some w=some r:=by
 injection h with h
 exact hk w h.symm
theorem rr {v r:β} (h:some v=some r):v=r:=Option.some.inj h
theorem rq {e:Exit} {rs:List ResultVar} {a:SV} (he:e= .normal\/e= .ret:=by first|exact .inr rfl|exact .inl rfl) (hk:(DM P E rs).map (λz=>Eu z.1)=some a:=by kernel_rfl):(e= .normal\/e= .ret)/\∃ss E',DM P E rs=some (ss,E')/\Eu ss=a:=⟨he,rsz hk⟩
theorem rx {e:Exit} {rs:List ResultVar} {b:SV} {a:List TV} (he:e= .normal\/e= .ret:=by first|exact .inr rfl|exact .inl rfl) (hk:(DM P E rs).map (λz=>(Eu z.1,z.2.boxes (.ext 0)))=some (b,some a):=by kernel_rfl):(e= .normal\/e= .ret)/\∃ss E',DM P E rs=some (ss,E')/\Eu ss=b/\E'.boxes (.ext 0)=some a:=⟨he,rsx hk⟩
section
variable {id:Nat}
theorem ws {y:Code} (h:RW P N ops 0 E (Pd (λE'=>Wp P N y E' Q) Q)):Wp P N (.seq (.region id ops false) y) E Q:=Wp.seq (wJ h)
end
theorem C5 (hf:∀x,(f x).length=sz) (h:(gi l n).bind kk=some r) (hk:∀x,gi l n=some x->kk x=some r->RW P N ops (i+1) (E.put (oA ops i).dst (eH E (oA ops i) (n.toNat*sz+0))) Q) (hc:qX P E (oA ops i) sz=some (AQ f l,n):=by kernel_rfl) (hq:pR P N ops i E=true:=by kernel_rfl):RW P N ops i E Q:=
 bd h λx gx h=>RW.q (IP hf gx hc) (hk x gx h) hq
def kC (P:Program) (N:Nat) (ops:Array Oper) (ts dn:List Nat) (E:St) (i:Nat):Option St:=bif Nat.blt i ops.size&&Gc N (oA ops i)&&f9 ops ts dn i then
 (match BE P ops E (oA ops i)with
 |some false=>some (E.put (oA ops i).dst (.tup []))
 |some true=>match IM P E (oA ops i)with
  |some s=>some (E.put (oA ops i).dst s)
  |none=>yY N E (oA ops i)
 |none=>none)else none
theorem tst {ts:List Nat} (hs:kC P N ops ts dn E i=some E') (h:KW P N ops ts (i::dn) E' Q):KW P N ops ts dn E Q:=by
 unfold kC at hs
 cases hb:(Nat.blt i ops.size&&Gc N (oA ops i)&&f9 ops ts dn i)with
 |false=>rw [hb]at hs;cases hs
 |true=>
  rw [hb]at hs;simp only [Af]at hs;split at hs
  ·rename_i hg
   injection hs with hs
   subst hs;exact AAp i h hg hb
  ·rename_i hg;simp only [Ak]at hb;have ho:Pq P ops E i=true:=by simp only [Pq,hb.1.1,hg,H3]
   split at hs
   ·rename_i s a
    injection hs with hs
    subst hs;exact yW i a h (by rw [ho,hb.1.2,hb.2];rfl)
   exact OZ i (by rw [hs];exact h) (by rw [hs];rfl) (by rw [ho,hb.2];rfl)
  cases hs
def lT (P:Program) (N:Nat) (ops:Array Oper) (ts dn:List Nat) (E:St):List Nat->Option (Nat×St)
 |[]=>none
 |i::l=>match kC P N ops ts dn E i with
  |some E'=>some (i,E')
  |none=>lT P N ops ts dn E l
theorem eT {ts:List Nat}:∀{l:List Nat} {E':St},lT P N ops ts dn E l=some (i,E')->kC P N ops ts dn E i=some E'
 |[],_,h=>by cases h
 |j::l,E',h=>by
  simp only [lT]at h;split at h
  ·rename_i E1 h1
   injection h with h
   injection h with h2 h3
   subst h2 h3;exact h1
  exact eT h
def wI (P:Program) (N:Nat) (ops:Array Oper) (ts:List Nat) (mv:List Nat) (E:St) (i:Nat):Option St:=bif Pq P ops E i&&(kp (oA ops i)||ts.contains i)then C8 P N (mv.contains i) E (oA ops i)else none
def vE (f:A->Option (List St)):List A->Option (List St)
 |[]=>some []
 |x::l=>match f x,vE f l with
  |some a,some b=>some (a++b)
  |_,_=>none
theorem fM {f:A->Option (List St)}:∀{l:List A} {L:List St},vE f l=some L->∀x∈l,∃a,f x=some a/\∀E∈a,E∈L
 |[],_,_,x,hx=>by cases hx
 |y::l,L,h,x,hx=>by
  simp only [vE]at h;split at h
  ·rename_i a b h1 h2
   injection h with h
   subst h
   rcases BB.1 hx with rfl|hx
   ·exact⟨a,h1,λE hE=>A8 _ hE⟩
   obtain⟨a',h3,h4⟩:=fM h2 x hx;exact⟨a',h3,λE hE=>AI _ (h4 E hE)⟩
  cases h
def mZ (P:Program) (N:Nat) (ops:Array Oper) (ts mv:List Nat):Nat->List Nat->St->Option (List St)
 |0,_,_=>none
 |n+1,dn,E=>match Region.ready .any ops (xU ops.size dn)with
  |[]=>some [E]
  |rs=>bif Nat.blt dn.length ops.size then(match lT P N ops ts dn E rs with
   |some (i,E')=>mZ P N ops ts mv n (i::dn) E'
   |none=>vE (λi=>match wI P N ops ts mv E i with
    |some E'=>mZ P N ops ts mv n (i::dn) E'
    |none=>none) rs)else none
theorem jU {ts:List Nat} {mv:List Nat}:∀{n:Nat} {dn:List Nat} {E:St} {L:List St},mZ P N ops ts mv n dn E=some L->(∀E'∈L,Q .normal E')->KW P N ops ts dn E Q
 |0,_,_,_,h,_=>by cases h
 |n+1,dn,E,L,h,hq=>by
  simp only [mZ]at h;split at h
  ·rename_i hr
   injection h with h
   subst h;exact AW (hq E (by simp)) (by rw [hr];rfl)
  rename_i b
  cases hb:Nat.blt dn.length ops.size with
  |false=>rw [hb]at h;cases h
  |true=>
   rw [hb]at h;simp only [Af]at h;split at h
   ·rename_i i E' hf;exact tst (eT hf) (jU h hq)
   refine KW.all _ (λi hi=>?_) b (by simp only [oM,hb,cD,beq_self_eq_true]);obtain⟨a,h1,h2⟩:=fM h i hi;split at h1
   ·rename_i E' hs;unfold wI at hs
    cases hc:(Pq P ops E i&&(kp (oA ops i)||ts.contains i))with
    |false=>rw [hc]at hs;cases hs
    |true=>
     rw [hc]at hs;exact IJ hs (jU h1 λE'' hE=>hq E'' (h2 E'' hE)) hc
   cases h1
def p9 (P:Program) (N:Nat) (ops:Array Oper) (ts mv dn:List Nat) (E:St):List St:=(mZ P N ops ts mv (ops.size+1) dn E).getD []
theorem nP {X:Prop} {c:List PanicEntry} (h:(Exit.panic c= .normal\/Exit.panic c= .ret)/\X):False:=by rcases h with⟨h|h,_⟩<;>cases h
section
variable {w0:Base} {a:Act}
theorem CJ.resay (h:CJ w0 FA UA N w a E blk FS US) (hd:d<N) (hs:Ep w a E blk s (a.eval (.tmp d)) [] []):∃FS' US',CJ w0 FA UA N w a (E.put (some d) s) blk FS' US'/\FS' .hand=FS .hand/\US' .hand=US .hand:=by
 have k:=h.put (F:=[]) (U:=[]) hd hs X5.none;have e:a.put (some d) (a.eval (.tmp d))=a:=by
  cases a with
  |mk tmps defers=>
   have hl:d<tmps.size:=AZ hd h.len;simp only [Act.put,Act.eval];congr 1;apply Array.ext (by simp);intro i h1 h2;rw [Array.getElem_setIfInBounds];split
   ·rename_i e;subst e;simp [hl]
   rfl
 rw [e]at k;exact⟨_,_,k,Br (by simp),Br (by simp)⟩
end
theorem CJ.toAdr {w0:Base} {a:Act} (h:CJ w0 FA UA N w a E blk FS US) (hd:d<N) (hs:E.ptr? (.tmp d)=some (.ext 0,[],0)) (hp:E.amb.pin=some b):∃FS' US',CJ w0 FA UA N w a (E.put (some d) (.one (.adr ⟨b,0,none⟩))) blk FS' US'/\FS' .hand=FS .hand/\US' .hand=US .hand:=by
 obtain⟨_,ad,h1,h2⟩:=JG h hs;refine h.resay hd ?_;rw [h2];have e:=h.xblk 0;rw [h.pin b hp]at e;simp only [pa,e,Addr.add]at h1
 injection h1 with h1
 subst h1;refine⟨?_,λ_=>rfl⟩;show Cz w (.adr ⟨b,0,none⟩) _ [] [];simp [Cz]
section
variable {w0:Base} {a:Act}
theorem CJ.toPtr (h:CJ w0 FA UA N w a E blk FS US) (hd:d<N) (hs:E.slots d= .one (.adr ⟨b,0,none⟩)) (hp:E.amb.pin=some b) {f:List TV} (hb:E.boxes (.ext 0)=some f) (g:f.isEmpty=false):
  ∃FS' US',CJ w0 FA UA N w a (E.put (some d) (.one (.ptr (.ext 0) (E.gen (.ext 0)) [] 0))) blk FS' US'/\FS' .hand=FS .hand/\US' .hand=US .hand:=by
 have hv:a.eval (.tmp d)= .pointer (some ⟨b,0,none⟩):=by
  have:=h.slot d;rw [hs]at this;simp only [Ep,CR,Cz]at this;exact this.1.1
 refine h.resay hd ?_;have e:=h.xblk 0;rw [h.pin b hp]at e;refine⟨⟨rfl,rfl,A3 _,λ_=>⟨?_,⟨b,0,none⟩,?_,hv⟩⟩,λ_=>by rw [hv];rfl⟩
 ·cases f with
  |nil=>cases g
  |cons c cs=>simp [St.place,St.root,hb,BV]
 simp [pa,e,Addr.add]
end
def pnE (E:St) (d b:Nat):St:=E.put (some d) (.one (.adr ⟨b,0,none⟩))
def wY (N:Nat) (E:St) (d:Nat):Bool:=Nat.blt d N&&(match E.ptr? (.tmp d)with
 |some (.ext 0,[],0)=>true
 |_=>false)
theorem tS (h:wY N E d=true):d<N/\E.ptr? (.tmp d)=some (.ext 0,[],0):=by
 simp only [wY,Ak]at h;refine⟨by simpa [Bl]using h.1,?_⟩;have h2:=h.2;split at h2
 ·assumption
 cases h2
theorem AAl (d:Nat) (h:RW P N ops i (pnE E d b) Q) (hp:E.amb.pin=some b:=by kernel_rfl) (ho:wY N E d=true:=by kernel_rfl):RW P N ops i E Q:=by
 intro w0 FA UA w a blk FS US hr hF hU;obtain⟨h1,h2⟩:=tS ho;obtain⟨FS',US',k1,k2,k3⟩:=hr.toAdr h1 h2 hp;exact h _ _ _ _ _ _ _ _ k1 (by rw [k2,hF]) (by rw [k3,hU])
def npE (E:St) (d:Nat):St:=E.put (some d) (.one (.ptr (.ext 0) (E.gen (.ext 0)) [] 0))
def uF (N:Nat) (E:St) (d:Nat):Bool:=Nat.blt d N&&(match E.boxes (.ext 0)with
 |some cells=>!cells.isEmpty
 |none=>false)
theorem lE (h:uF N E d=true):d<N/\∃a,E.boxes (.ext 0)=some a/\a.isEmpty=false:=by
 simp only [uF,Ak]at h;refine⟨by simpa [Bl]using h.1,?_⟩;have h2:=h.2;split at h2
 ·rename_i a hc;exact⟨a,hc,by simpa using h2⟩
 cases h2
theorem fT (d:Nat) (h:RW P N ops i (npE E d) Q) (hp:E.amb.pin=some b:=by kernel_rfl) (hs:E.slots d= .one (.adr ⟨b,0,none⟩):=by kernel_rfl) (ho:uF N E d=true:=by kernel_rfl):RW P N ops i E Q:=by
 intro w0 FA UA w a blk FS US hr hF hU;obtain⟨h1,c,h2,h3⟩:=lE ho;obtain⟨FS',US',k1,k2,k3⟩:=hr.toPtr h1 hs hp h2 h3;exact h _ _ _ _ _ _ _ _ k1 (by rw [k2,hF]) (by rw [k3,hU])
theorem mH {ts:List Nat} (d:Nat) (h:KW P N ops ts dn (npE E d) Q) (hp:E.amb.pin=some b:=by kernel_rfl) (hs:E.slots d= .one (.adr ⟨b,0,none⟩):=by kernel_rfl) (ho:uF N E d=true:=by kernel_rfl):KW P N ops ts dn E Q:=by
 intro hq hc w0 FA UA w a blk FS US hr hF hU;obtain⟨h1,c,h2,h3⟩:=lE ho;obtain⟨FS',US',k1,k2,k3⟩:=hr.toPtr h1 hs hp h2 h3;exact h hq hc _ _ _ _ _ _ _ _ k1 (by rw [k2,hF]) (by rw [k3,hU])
structure Ue (n c b g cap:Nat) (e T T':TypeId) (sz:Nat) (rest:List Value) (enc:γ->List TV) (w:World) (l:List γ):Prop where
 ne:b≠g/\c≠g/\c≠b
 len:l.length=n
 ptr:w.heap[c]?=some (.cells #[.pointer (some ⟨b,0,none⟩)] T' (0,0))
 box:w.heap[b]?=some (.cells (.slice (some ⟨g,0,none⟩) n cap::rest).toArray T (0,0))
 row:∃cur,w.heap[g]?=some (.cells cur e (0,0))/\cur.size=cap*sz/\cur.toList.take (l.length*sz)=(AQ enc l).map TV.val
 le:l.length<=cap/\cap<=maxLen
theorem kL {l:List γ} {k:Nat} {n c b g cap:Nat} {e T T':TypeId} {rest:List Value} {enc:γ->List TV} (h:Ue n c b g cap e T T' sz rest enc w l) (hk:k<l.length*sz):w.cell? ⟨g,k,none⟩=((AQ enc l).map TV.val)[k]? :=by
 obtain⟨a,h1,h2,h3⟩:=h.row;rw [<-h3,BX,Aw hk];simp [World.cell?,h1]
def Hx (n c b g cap:Nat) (e T T':TypeId) (sz:Nat) (rest:List Value) (enc:γ->List TV) (l:List γ):Pk where
 B:=[c,b,g]
 I:=λw=>Ue n c b g cap e T T' sz rest enc w l
 st:=λw w' h hk=>⟨h.ne,h.len,by rw [hk c (by simp)];exact h.ptr,by rw [hk b (by simp)];exact h.box,by rw [hk g (by simp)];exact h.row,h.le⟩
 rd:=λad=>if ad.spot.isSome=true then none else if ad.block=c then(if ad.off=0 then some (.pointer (some ⟨b,0,none⟩))else none)else if ad.block=b then(if ad.off=0 then some (.slice (some ⟨g,0,none⟩) n cap)else none)else if ad.block=g then(if ad.off<l.length*sz then((AQ enc l).map TV.val)[ad.off]? else none)else none
 rdI:=λw ad v h hr=>by
  obtain⟨bl,off,spot⟩:=ad
  cases spot with
  |some s=>simp at hr
  |none=>
   simp only [IG,BL,FV]at hr;split at hr
   ·rename_i hb;subst hb;split at hr
    ·rename_i ho;subst ho
     injection hr with hr
     subst hr;simp [World.cell?,h.ptr]
    cases hr
   split at hr
   ·rename_i hb;subst hb;split at hr
    ·rename_i ho;subst ho
     injection hr with hr
     subst hr;simp [World.cell?,h.box]
    cases hr
   split at hr
   ·rename_i hg;subst hg;split at hr
    ·rename_i ho;rw [kL h ho];exact hr
    cases hr
   cases hr
theorem cJ {ie:TypeInfo} {c b g cap:Nat} {e T T':TypeId} {rest:List Value} {enc:γ->List TV} (h:∀x,(enc x).length=sz) (n:Nat) (gS:Bool) (hx:∀args W,(callFunc sf args).run P W=((Extern.ReflectliteSwapper.swap gS args).run P W).andThen λv w'=> .ok (.value v) w') (a3:P.info? e=some ie) (o:ie.size=sz) (h7:∀w,(isAgg e).run P w= .ok true w):
  Lt P (Hx n c b g cap e T T' sz rest enc) sf #[.slice (some ⟨g,0,none⟩) n cap,typeHandle P e]:=by
 intro l i j x y hi hj w hI hB;obtain⟨⟨u,h0,h8⟩,hn,p,q,h9,h3⟩:=hI;have a4:b<w.heap.size:=hB b (by simp [Hx]);have a5:c<w.heap.size:=hB c (by simp [Hx]);have b3:g<w.heap.size:=hB g (by simp [Hx]);obtain⟨f,hg,h4,a0⟩:=h9;obtain⟨i0,i1⟩:=HQ hi;obtain⟨j0,j1⟩:=HQ hj;obtain⟨a,rfl⟩:=CF i0;obtain⟨d,rfl⟩:=CF j0;simp only [Bc]at i1 j1;have la:=(Ag.1 i1).1;have lc:=(Ag.1 j1).1;have hX:((enc x).map TV.val).length=sz:=by rw [Be];exact h x
 have hY:((enc y).map TV.val).length=sz:=by rw [Be];exact h y
 have r:l.length*sz<=f.size:=by rw [h4];exact BC _ h3.1
 have a6:(a+1)*sz<=l.length*sz:=BC _ la;have a7:(d+1)*sz<=l.length*sz:=BC _ lc;rw [D5]at a6 a7;have hI:Ue n c b g cap e T T' sz rest enc w l:=⟨⟨u,h0,h8⟩,hn,p,q,⟨f,hg,h4,a0⟩,h3⟩;have cell:∀(m:Nat) (z:γ),l[m]?=some z->∀k v,((enc z).map TV.val)[k]?=some v->w.cell? ⟨g,0+m*ie.size+k,none⟩=some v:=by
  intro m z hm k v hk;have a1:=(Ag.1 hk).1;rw [Be,h]at a1;have lm:=(Ag.1 hm).1;have a8:(m+1)*sz<=l.length*sz:=BC _ lm;rw [D5]at a8;rw [o,Ht,kL hI (by omega)];have e1:(AQ enc l)[m*sz+k]?=(enc z)[k]? :=by
   have h2:(AQ enc l)[m*sz+k]?=((AQ enc l).drop (m*sz))[k]? :=by rw [BK]
   rw [h2,Ju h l m,Bi lm,ON];have e4:l[m]=z:=by rw [Ab lm]at hm;injection hm
   rw [e4,AM (by rw [h];exact a1)]
  rw [AL,e1,<-AL,hk]
 have frz:∀(m k:Nat),w.frozen? ⟨g,0+m*ie.size+k,none⟩=false:=by
  intro m k;simp [World.frozen?,hg]
 have s:=Go.Lib.run_swap_cells (P:=P) gS e ie a3 h7 g 0 n cap a d (by omega) (by omega) ((enc x).map TV.val) ((enc y).map TV.val) (by rw [hX,o]) (by rw [hY,o]) (λv hv=>by obtain⟨t,_,rfl⟩:=AH.1 hv;exact Vo) (λv hv=>by obtain⟨t,_,rfl⟩:=AH.1 hv;exact Vo) w (cell a x i1) (cell d y j1) (λk _=>frz a k) (λk _=>frz d k);simp only [Ht,o]at s;have h1:=IF e (0,0) g ((enc y).map TV.val) (a*sz) f w hg (by rw [hY];omega);have a9:(setRow f.toList (a*sz) ((enc y).map TV.val)).toArray.size=f.size:=by
  rw [M9,DP (by rw [hY];simp;omega)];simp
 have h2:=IF e (0,0) g ((enc x).map TV.val) (d*sz) _ _ h1 (by rw [a9,hX];omega);have kB:∀k,k<w.heap.size->k≠g->((w.setCells g (a*sz) ((enc y).map TV.val)).setCells g (d*sz) ((enc x).map TV.val)).heap[k]?=w.heap[k]? :=by
  intro k hk a2;have s1:(w.setCells g (a*sz) ((enc y).map TV.val)).heap.size=w.heap.size:=FQ g _ _ _;rw [World.heap_setCells_other _ g _ _ (by rw [s1];exact hk) a2,World.heap_setCells_other _ g _ _ hk a2]
 refine⟨(w.setCells g (a*sz) ((enc y).map TV.val)).setCells g (d*sz) ((enc x).map TV.val),?_,⟨?_,?_,?_,?_,?_⟩,?_⟩
 ·rw [hx];have ea:(#[Value.int .i64 (a:Int),Value.int .i64 (d:Int)]++ #[Value.slice (some ⟨g,0,none⟩) n cap,typeHandle P e])= #[.int .i64 (a:Int),.int .i64 (d:Int),.slice (some ⟨g,0,none⟩) n cap,typeHandle P e]:=rfl;rw [ea,s];rfl
 ·rw [World.os_setCells,World.os_setCells]
 ·rw [I3,I3]
 ·rw [World.output_setCells,World.output_setCells]
 ·rw [FQ,FQ];exact A3 _
 ·intro k hk b0;exact kB k hk (λe=>b0 (by rw [e];simp [Hx]))
 have h5:(si (si l (a:Int) y) (d:Int) x).length=l.length:=by simp [si]
 have lcur:f.toList.length=f.size:=by simp
 have h6:(setRow f.toList (a*sz) ((enc y).map TV.val)).length=f.size:=by rw [DP (by rw [hY,lcur];omega),lcur]
 have b1:(setRow (setRow f.toList (a*sz) ((enc y).map TV.val)) (d*sz) ((enc x).map TV.val)).length=f.size:=by rw [DP (by rw [hX,h6];omega),h6]
 show Ue n c b g cap e T T' sz rest enc _ (si (si l (a:Int) y) (d:Int) x);refine⟨⟨u,h0,h8⟩,h5.trans hn,by rw [kB c a5 h0];exact p,by rw [kB b a4 u];exact q,⟨_,h2,?_,?_⟩,by rw [h5];exact h3⟩
 ·rw [M9];exact b1.trans h4
 rw [h5];show((setRow (setRow f.toList (a*sz) ((enc y).map TV.val)) (d*sz) ((enc x).map TV.val))).take (l.length*sz)=_;rw [KJ (by rw [hX];omega) (by rw [h6];exact r),KJ (by rw [hY];omega) (by rw [lcur];exact r),a0,<-O4,<-O4];have e1:setRow (AQ enc l) (a*sz) (enc y)=AQ enc (si l (a:Int) y):=by
  have:=Qt h (z:=y) hi
  rwa [Bc]at this
 obtain⟨z0,b2⟩:∃z0,gi (si l (a:Int) y) (d:Int)=some z0:=by
  have lc2:d<(si l (a:Int) y).length:=by simp only [si,Hp];exact lc
  refine⟨(si l (a:Int) y)[d],?_⟩;unfold gi;rw [Aw (by omega),Bc];exact Ab lc2
 have e2:=Qt h (z:=x) b2;rw [Bc]at e2;rw [e1,e2]
theorem kT {l:List γ} {n c b g cap:Nat} {e T T':TypeId} {rest:List Value} {enc:γ->List TV}:(Hx n c b g cap e T T' sz rest enc l).rd ⟨c,0,none⟩=some (.pointer (some ⟨b,0,none⟩)):=by
 simp [Hx]
theorem kV {l:List γ} {n c b g cap:Nat} {e T T':TypeId} {rest:List Value} {enc:γ->List TV} (h:c≠b):(Hx n c b g cap e T T' sz rest enc l).rd ⟨b,0,none⟩=some (.slice (some ⟨g,0,none⟩) n cap):=by
 simp [Hx,h.symm]
theorem kS {l:List γ} {i:Int} {k:Nat} {n c b g cap:Nat} {e T T':TypeId} {rest:List Value} {enc:γ->List TV} (a:∀x,(enc x).length=sz) {x:γ} {t:TV} {ad:Addr} (hi:gi l i=some x) (hk:(enc x)[k]?=some t) (hb:b≠g) (hc:c≠g) (f:ad=⟨g,i.toNat*sz+k,none⟩):(Hx n c b g cap e T T' sz rest enc l).rd ad=some t.val:=by
 subst f;obtain⟨i0,i1⟩:=HQ hi;have lm:=(Ag.1 i1).1;have d:=(Ag.1 hk).1;rw [a]at d;have h:(i.toNat+1)*sz<=l.length*sz:=BC _ lm;rw [D5]at h;have e1:(AQ enc l)[i.toNat*sz+k]?=(enc x)[k]? :=by
  have h2:(AQ enc l)[i.toNat*sz+k]?=((AQ enc l).drop (i.toNat*sz))[k]? :=by rw [BK]
  rw [h2,Ju a l i.toNat,Bi lm,ON];have e4:l[i.toNat]=x:=by rw [Ab lm]at i1;injection i1
  rw [e4,AM (by rw [a];exact d)]
 simp only [Hx,IG,BL,FV];rw [Ax (λe=>hc e.symm),Ax (λe=>hb e.symm),BU,Aw (by omega),AL,e1,hk];rfl
theorem sJ {o:Oper} (d:Nat) {ad:Addr} {x:Nat} (hk:GC P N ops rest (E.put (some d) (.one (.adr ad))) K) (hs:E.slots x= .one (.adr ad)) (ho:o.op= .nilCheck (.tmp x):=by rfl) (hd:o.dst=some d:=by rfl) (hN:Nat.blt d N=true:=by rfl) (hg:BE P ops E o=some true:=by rfl):GC P N ops (o::rest) E K:=
 GC.any d (.adr ad) hk (λw0 FA UA w a blk FS US h=>by
  have h1:=bU h hs;refine⟨.pointer (some ad),?_,by simp [Cz],rfl⟩
  simp [execOp,ho,h1,Instr.sureAddr]) hd hN hg
def RN (o:Oper):Nat:=o.dst.getD 0
def AAF (E:St) (ops:Array Oper) (i:Nat) (r:Root) (t:TV):St:=((((((E.put (some (RN (oA ops i))) (.one .junk)).put (some (RN (oA ops (i+1)))) (.one .junk))).setRoot r [t]).bump r).put (some (RN (oA ops (i+2)))) (.tup []))
def wN:Operand->Nat
 | .tmp n=>n
 |_=>0
def cM (o:Oper):Nat:=match o.op with
 | .makeInterface _ x=>wN x
 |_=>0
def Z7 (o:Oper):Nat:=match o.op with
 | .makeFunc _ _ c=>wN (c[0]?.getD (.tmp 0))
 |_=>0
def wP (o:Oper):Array TypeId:=match o.op with
 | .call c=>c.argTypes
 |_=> #[]
def Yr (s:SV):Nat:=match s with
 | .one (.view _ v _ _)=>v
 |_=>0
theorem yL {rr:β} {l:List γ} {kk:List γ->Option β} {x:Option (List γ)} (h:x.bind kk=some rr) {enc:γ->List TV} {sz e t:Nat} {a:FuncId} (r:Root) (hs:∀l',x=some l'->VJ P (NL (oA ops (i+2))) t e sz enc a l l') (hk:∀l',x=some l'->kk l'=some rr->RW P N ops (i+3) (AAF E ops i r (.sl true e sz (AQ enc l'))) Q) (b:∀x,(enc x).length=sz) (d:∀x,(enc x).all TV.flat=true) (hx:E.slots (cM (oA ops i))= .one (.view r (Yr (E.slots (cM (oA ops i)))) [] 0):=by kernel_rfl) (c:E.ver r=Yr (E.slots (cM (oA ops i))):=by kernel_rfl) (hp:E.ptr? (.tmp (Z7 (oA ops (i+1))))=some (r,[],0):=by kernel_rfl) (hc:E.boxes r=some [.sl true e sz (AQ enc l)]:=by kernel_rfl) (hm:r.mem=true:=by kernel_rfl) (h1:(oA ops i).op= .makeInterface t (.tmp (cM (oA ops i))):=by kernel_rfl) (h2:(oA ops (i+1)).op= .makeFunc (.func a) #[] #[.tmp (Z7 (oA ops (i+1)))]:=by kernel_rfl) (h3:(oA ops (i+2)).op= .call {callee:= .value (.func (NL (oA ops (i+2)))),args:= #[.tmp (RN (oA ops i)),.tmp (RN (oA ops (i+1)))],argTypes:=wP (oA ops (i+2))}:=by kernel_rfl) (k1:(oA ops i).dst=some (RN (oA ops i)):=by kernel_rfl) (k2:(oA ops (i+1)).dst=some (RN (oA ops (i+1))):=by kernel_rfl) (k3:(oA ops (i+2)).dst=some (RN (oA ops (i+2))):=by kernel_rfl) (g1:(oA ops i).guard=none:=by kernel_rfl) (g2:(oA ops (i+1)).guard=none:=by kernel_rfl) (g3:(oA ops (i+2)).guard=none:=by kernel_rfl) (hN:(Nat.blt (RN (oA ops i)) N&&Nat.blt (RN (oA ops (i+1))) N&&Nat.blt (RN (oA ops (i+2))) N&&!Nat.beq (RN (oA ops i)) (RN (oA ops (i+1)))&&!Nat.beq (Z7 (oA ops (i+1))) (RN (oA ops i))&&Nat.blt 0 sz&&Nat.blt (i+2) ops.size)=true:=by kernel_rfl) (ht:P.underlying t=some (.slice e):=by kernel_rfl) (hf:Rd P N (oA ops (i+2))=true:=by kernel_rfl):RW P N ops i E Q:=by
 obtain⟨l',hl',h⟩:=Ar.1 h;simp only [Ak,CP]at hN;obtain⟨⟨⟨⟨⟨⟨q1,q2⟩,q3⟩,q4⟩,q5⟩,q6⟩,q7⟩:=hN;have b2:Nat.blt (i+1) ops.size=true:=by rw [Bl]at q7⊢;omega
 have b1:Nat.blt i ops.size=true:=by rw [Bl]at q7⊢;omega
 have hk':=hk l' hl' h;unfold RW at hk'⊢;rw [Gg b1,Gg b2,Gg q7];exact vI (hs l' hl') hk' b d hx c hp hc hm h1 h2 h3 k1 k2 k3 g1 g2 g3 q1 q2 q3 q4 q5 q6 ht (MZ hf).choose_spec.choose_spec.2.1
def bT (o:Oper):Nat:=match o.op with
 | .call c=>match c.args.toList with
  |[x]=>wN x
  |_=>0
 |_=>0
def cE (s:SV):Nat:=match s with
 | .one (.view (.slot n) _ _ _)=>n
 |_=>0
def Tr (P:Program) (f:FuncId) (t e sz:Nat) (enc:γ->List TV) (g:FuncId) (l l':List γ):Prop:=
 ∀(w:World) (c b:Nat) (v:Value) (rest:List Value) (T T':TypeId),w.heap[c]?=some (.cells #[.pointer (some ⟨b,0,none⟩)] T' (0,0))->w.heap[b]?=some (.cells (v::rest).toArray T (0,0))->w.ownsRow 0 e sz v l.length ((AQ enc l).map TV.val)->b∉Cf v->c∉Cf v->c≠b->
  Calls P f #[.iface t v,.func (.func g) #[] #[.pointer (some ⟨c,0,none⟩)]] w λr w'=>r= .returned (.tuple #[])/\G9 w w' (c::b::Cf v)/\w'.heap[c]?=w.heap[c]? /\w'.heap[b]?=w.heap[b]? /\w'.ownsRow 0 e sz v l'.length ((AQ enc l').map TV.val)
def qW (c b:Nat) (v:Value) (rest:List Value) (T T':TypeId) (e sz n:Nat) (xs:List Value):Pk where
 B:=c::b::Cf v
 I:=λw=>w.heap[c]?=some (.cells #[.pointer (some ⟨b,0,none⟩)] T' (0,0))/\w.heap[b]?=some (.cells (v::rest).toArray T (0,0))/\w.ownsRow 0 e sz v n xs
 st:=λw w' h hk=>⟨by rw [hk c (by simp)];exact h.1,by rw [hk b (by simp)];exact h.2.1,h.2.2.1,by
  rcases h.2.2.2 with q|⟨g,cap,a,rfl,q1,q2,q3⟩
  ·exact .inl q
  exact .inr ⟨g,cap,a,rfl,q1,by rw [hk g (by simp [Cf,Value.ownBlock])];exact q2,q3⟩⟩
theorem vJ {l l':List γ} {rc:Root} {o1 o2 o3:Oper} {ver:Nat} {enc:γ->List TV} {sz e t:Nat} {f g:FuncId} {rs:List TV} {d1 d2 d3 x p b0:Nat} {tys:Array TypeId} (hs:Tr P f t e sz enc g l l') (hk:GN P N ops rest (((((E.put (some d1) (.one .junk)).put (some d2) (.one .junk)).setRoot (.ext 0) (.sl true e sz (AQ enc l')::rs)).bump (.ext 0)).put (some d3) (.tup [])) Q) (u:∀x,(enc x).length=sz) (j:∀x,(enc x).all TV.flat=true) (hpin:E.amb.pin=some b0) (hx:E.slots x= .one (.view (.ext 0) ver [] 0)) (y:E.ver (.ext 0)=ver) (hp:E.ptr? (.tmp p)=some (rc,[],0)) (hc:E.boxes (.ext 0)=some (.sl true e sz (AQ enc l)::rs)) (c:E.boxes rc=some [.adr ⟨b0,0,none⟩]) (hm:rc.mem=true) (h1:o1.op= .makeInterface t (.tmp x)) (h2:o2.op= .makeFunc (.func g) #[] #[.tmp p]) (h3:o3.op= .call {callee:= .value (.func f),args:= #[.tmp d1,.tmp d2],argTypes:=tys}) (k1:o1.dst=some d1) (k2:o2.dst=some d2) (k3:o3.dst=some d3) (g1:o1.guard=none) (g2:o2.guard=none) (g3:o3.guard=none) (h9:Nat.blt d1 N=true) (a0:Nat.blt d2 N=true) (a1:Nat.blt d3 N=true) (a2:Nat.beq d1 d2=false) (z:Nat.beq p d1=false) (a3:Nat.blt 0 sz=true) (ht:P.underlying t=some (.slice e)) (hf:Ye P f):GN P N ops (o1::o2::o3::rest) E Q:=by
 have hN1':d1<N:=by simpa [Bl]using h9
 have hN2':d2<N:=by simpa [Bl]using a0
 have hN3':d3<N:=by simpa [Bl]using a1
 have hne':d1≠d2:=by intro e;subst e;simp at a2
 have hne2':p≠d1:=by intro e;subst e;simp at z
 have hsz':0<sz:=by simpa [Bl]using a3
 have a4:rc≠ .ext 0:=by
  rintro rfl;rw [hc]at c
  injection c with c
  injection c with c
  cases c
 intro w0 FA UA w a blk FS US hr hF hU;have h0:blk (.ext 0)=b0:=by rw [hr.xblk,hr.pin b0 hpin]
 obtain⟨v,vs,T,F2,U1,U2,b1,b2,b3,b4,b5⟩:∃v vs T F2 U1 U2,w.heap[blk (.ext 0)]?=some (.cells (v::vs).toArray T (0,0))/\(∃F1,Cz w (.sl true e sz (AQ enc l)) v F1 U1/\FS (.ext 0)=blk (.ext 0)::(F1++F2))/\By w rs vs F2 U2/\US (.ext 0)=U1++U2/\True:=by
  rcases hr.box (.ext 0) rfl with⟨q1,_⟩|⟨cs,h,T,F,q1,q2,q3,q4⟩
  ·rw [hc]at q1;cases q1
  rw [hc]at q1
  injection q1 with q1
  subst q1;simp only [By]at q3;obtain⟨v,k,F1,F2,U1,U2,e1,rfl,e3,q5,q6⟩:=q3;have:h=(v::k).toArray:=by apply Rf;simpa using e1
  subst this;exact⟨v,k,T,F2,U1,U2,q2,⟨F1,q5,q4⟩,q6,e3,trivial⟩
 obtain⟨F1,b2,b6⟩:=b2;obtain⟨T',c1⟩:∃T',w.heap[blk rc]?=some (.cells #[.pointer (some ⟨b0,0,none⟩)] T' (0,0)):=by
  rcases hr.box rc hm with⟨q1,_⟩|⟨cs,h,T,F,q1,q2,q3,q4⟩
  ·rw [c]at q1;cases q1
  rw [c]at q1
  injection q1 with q1
  subst q1;simp only [By,Cz]at q3;obtain⟨v,k,F1,F2,U1,U2,e1,rfl,e3,⟨rfl,_⟩,rfl,_⟩:=q3;have:h= #[.pointer (some ⟨b0,0,none⟩)]:=by apply Rf;simpa using e1
  subst this;exact⟨T,q2⟩
 have a5:blk rc∈FS rc:=by
  rcases hr.box rc hm with⟨q1,_⟩|⟨cs,h,T,F,q1,q2,q3,q4⟩
  ·rw [c]at q1;cases q1
  rw [q4];simp
 simp only [Cz]at b2;obtain⟨n,xs,F',b7,b8,rfl⟩:=b2;have a6:=S8 b8 (F6 j l);obtain⟨rfl,rfl⟩:=Kl b8 (F6 j l);subst a6;have a7:n=l.length:=by
  have q:=b7.1;rw [Be,EV u l]at q;exact(Nat.eq_of_mul_eq_mul_right hsz' q).symm
 subst a7;rw [Az]at b6;rw [A5]at b4;have h4:=hr.nodup (.ext 0);rw [b6]at h4
 have a8:blk (.ext 0)∉Cf v:=λhx=>(Dt.1 h4).1 (A8 _ hx)
 have h5:∀x∈FS (.ext 0),x≠blk rc:=λx hx e=>hr.dis _ _ a4 _ a5 (e▸hx)
 have a9:blk rc∉Cf v:=λhx=>h5 (blk rc) (by rw [b6];exact Dk _ (A8 _ hx)) rfl
 have c0:blk rc≠blk (.ext 0):=λe=>h5 (blk (.ext 0)) (by rw [b6];simp) e.symm
 have evx:a.eval (.tmp x)=v:=by
  have q:=hr.slot x;rw [hx]at q;simp only [Ep,CR]at q;obtain⟨⟨_,_,_,q4⟩,_⟩:=q;obtain⟨q5,_⟩:=q4 y;simpa [pv,BT,Addr.add,World.cell?,b1]using q5.symm
 have evp:a.eval (.tmp p)= .pointer (some ⟨blk rc,0,none⟩):=by
  obtain⟨_,ad,q1,q2⟩:=JG hr hp;rw [q2]
  cases rc with
  |slot n=>cases hm
  |hand=>cases hm
  |box n=>simp [pa,Addr.add]at q1;rw [<-q1]
  |ext n=>simp [pa,Addr.add]at q1;rw [<-q1]
 obtain⟨FS1,US1,r1,r2,r3⟩:=SO hr hF hU hN1' (.iface t v);have e1:(execOp a.eval o1).run P w= .ok (.value (.iface t v)) w:=by
  simp [execOp,h1,Instr.makeInterface,run_underlying ht,evx]
 simp only [wpList,Cp hr (IV (P:=P) (ops:=ops) g1),BU];refine .inl ?_
 try unfold Oper.wp
 rw [e1,Oper.upon_value,k1];have evp1:(a.put (some d1) (.iface t v)).eval (.tmp p)= .pointer (some ⟨blk rc,0,none⟩):=by rw [Dq hne2',evp]
 obtain⟨FS2,US2,s1,s2,s3⟩:=SO r1 r2 r3 hN2' (.func (.func g) #[] #[.pointer (some ⟨blk rc,0,none⟩)]);have e2:(execOp (a.put (some d1) (.iface t v)).eval o2).run P w= .ok (.value (.func (.func g) #[] #[.pointer (some ⟨blk rc,0,none⟩)])) w:=by
  simp [execOp,h2,Instr.makeFunc,evp1]
 simp only [wpList,Cp r1 (IV (P:=P) (ops:=ops) g2),BU];refine .inl ?_
 try unfold Oper.wp
 rw [e2,Oper.upon_value,k2];simp only [wpList,Cp s1 (IV (P:=P) (ops:=ops) g3),BU];refine .inl ?_;have c2:d1<a.tmps.size:=AZ hN1' hr.len;have c6:d2<(a.put (some d1) (.iface t v)).tmps.size:=AZ hN2' r1.len
 try unfold Oper.wp
 rw [HG h3 hf];have ea: #[Operand.tmp d1,.tmp d2].map ((a.put (some d1) (.iface t v)).put (some d2) (.func (.func g) #[] #[.pointer (some ⟨blk rc,0,none⟩)])).eval= #[.iface t v,.func (.func g) #[] #[.pointer (some ⟨blk rc,0,none⟩)]]:=by
  simp [FK c6,Dq hne',FK c2]
 rw [ea];simp only [Oper.upon];refine Calls.mono (hs w (blk rc) (blk (.ext 0)) v vs T T' (by rw [h0];exact c1) b1 b7 a8 a9 c0) ?_;rintro ee w' ⟨rfl,i,c7,h6,c8⟩;have o:((E.put (some d1) (.one .junk)).put (some d2) (.one .junk)).boxes (.ext 0)=some (.sl true e sz (AQ enc l)::rs):=hc;obtain⟨G1,G2,V2,f1,f2,f3,f4⟩:∃G1 G2 V2,FS2 (.ext 0)=blk (.ext 0)::(G1++G2)/\G1=Cf v/\US2 (.ext 0)=V2/\By w rs vs G2 V2:=by
  rcases s1.box (.ext 0) rfl with⟨q1,_⟩|⟨cs,h,T2,F2,q1,q2,q3,q4⟩
  ·rw [o]at q1;cases q1
  rw [o]at q1
  injection q1 with q1
  subst q1;rw [b1]at q2
  injection q2 with q2
  injection q2 with q2
  subst q2;simp only [By]at q3;obtain⟨v2,k,F3,F4,U1,U2,e1,rfl,e3,q5,q6⟩:=q3;simp at e1;obtain⟨rfl,rfl⟩:=e1;simp only [Cz]at q5;obtain⟨n,vs,F',c4,c5,rfl⟩:=q5;obtain⟨rfl,rfl⟩:=Kl c5 (F6 j l);exact⟨_,_,_,q4,by simp,by rw [e3];rfl,q6⟩
 subst f2;have m:=s1.nodup (.ext 0);rw [f1]at m;have d0:blk rc∈FS2 rc:=by
  have h7:((E.put (some d1) (.one .junk)).put (some d2) (.one .junk)).boxes rc=some [.adr ⟨b0,0,none⟩]:=c
  rcases s1.box rc hm with⟨q1,_⟩|⟨cs,h,T,F,q1,q2,q3,q4⟩
  ·rw [h7]at q1;cases q1
  rw [q4];simp
 have keepb:∀b,b<w.heap.size->b∉Cf v->w'.heap[b]?=w.heap[b]? :=by
  intro b hb hv;by_cases q1:b=blk rc
  ·rw [q1];exact c7
  by_cases q2:b=blk (.ext 0)
  ·rw [q2];exact h6
  exact i.keep b hb (by simp only [BB,not_or];exact⟨q1,q2,hv⟩)
 have h8:G9 w w' (FS2 (.ext 0)):=⟨i.os,i.tape,i.output,i.size,λb hb hn=>keepb b hb (λhv=>hn (by rw [f1];exact Dk _ (A8 _ hv)))⟩
 have hG:∀b∈G2,w'.heap[b]?=w.heap[b]? :=λb hb=>keepb b (s1.inF (.ext 0) b (by rw [f1];exact Dk _ (AI _ hb))).2
  (λhv=>(Bm.1 (Dt.1 m).2).2.2 b hv b hb rfl)
 have hV:∀b∈V2,w'.heap[b]?=w.heap[b]? :=λb hb=>keepb b (s1.inU (.ext 0) b (by rw [f3];exact hb)).2
  (λhv=>s1.disU (.ext 0) (.ext 0) b (by rw [f1];exact Dk _ (A8 _ hv)) (by rw [f3];exact hb))
 obtain⟨FS3,US3,t1,t2,t3⟩:=s1.turn s2 s3 (r:= .ext 0) rfl o (cells':= .sl true e sz (AQ enc l')::rs) (by simp) (w':=w') h8
  ⟨(
   v::vs).toArray,T,Cf v++G2,by rw [h6];exact b1,by
   rw [f3];simp only [By];refine⟨v,vs,Cf v,G2,[],V2,by simp,rfl,rfl,?_,Fx f4 hG hV⟩;simp only [Cz]
   exact⟨l'.length,_,[],c8,Sf (F6 j l'),by simp⟩,f1⟩
 obtain⟨FS4,US4,u1,u2,u3⟩:=t1.land (w':=w') (d:=d3) (s:= .tup []) (v:= .tuple #[]) (F:=[]) (U:=[]) hN3' (by simp [Ep,Nf]) C0 (by simp) (by simp) (A3 _) rfl rfl rfl (λ_ _ _=>rfl);rw [k3];exact hk _ _ _ _ _ _ _ _ u1 u2 u3
def vQ:Option (List TV)->List TV
 |some (_::ts)=>ts
 |_=>[]
def rt0:Option (Root×List Nat×Nat)->Root
 |some (r,_,_)=>r
 |none=> .hand
def s2E (E:St) (ops:Array Oper) (i:Nat) (t:TV):St:=((((((E.put (some (RN (oA ops i))) (.one .junk)).put (some (RN (oA ops (i+1)))) (.one .junk))).setRoot (.ext 0) (t::vQ (E.boxes (.ext 0)))).bump (.ext 0)).put (some (RN (oA ops (i+2)))) (.tup []))
theorem yM {rr:β} {l:List γ} {kk:List γ->Option β} {x:Option (List γ)} (h:x.bind kk=some rr) {enc:γ->List TV} {sz e t b0:Nat} {a:FuncId} (hs:∀l',x=some l'->Tr P (NL (oA ops (i+2))) t e sz enc a l l') (hk:∀l',x=some l'->kk l'=some rr->RW P N ops (i+3) (s2E E ops i (.sl true e sz (AQ enc l'))) Q) (b:∀x,(enc x).length=sz) (d:∀x,(enc x).all TV.flat=true) (hpin:E.amb.pin=some b0:=by kernel_rfl) (hx:E.slots (cM (oA ops i))= .one (.view (.ext 0) (Yr (E.slots (cM (oA ops i)))) [] 0):=by kernel_rfl) (c:E.ver (.ext 0)=Yr (E.slots (cM (oA ops i))):=by kernel_rfl) (hp:E.ptr? (.tmp (Z7 (oA ops (i+1))))=some (rt0 (E.ptr? (.tmp (Z7 (oA ops (i+1))))),[],0):=by kernel_rfl) (hc:E.boxes (.ext 0)=some (.sl true e sz (AQ enc l)::vQ (E.boxes (.ext 0))):=by kernel_rfl) (f:E.boxes (rt0 (E.ptr? (.tmp (Z7 (oA ops (i+1))))))=some [.adr ⟨b0,0,none⟩]:=by kernel_rfl) (hm:(rt0 (E.ptr? (.tmp (Z7 (oA ops (i+1)))))).mem=true:=by kernel_rfl) (h1:(oA ops i).op= .makeInterface t (.tmp (cM (oA ops i))):=by kernel_rfl) (h2:(oA ops (i+1)).op= .makeFunc (.func a) #[] #[.tmp (Z7 (oA ops (i+1)))]:=by kernel_rfl) (h3:(oA ops (i+2)).op= .call {callee:= .value (.func (NL (oA ops (i+2)))),args:= #[.tmp (RN (oA ops i)),.tmp (RN (oA ops (i+1)))],argTypes:=wP (oA ops (i+2))}:=by kernel_rfl) (k1:(oA ops i).dst=some (RN (oA ops i)):=by kernel_rfl) (k2:(oA ops (i+1)).dst=some (RN (oA ops (i+1))):=by kernel_rfl) (k3:(oA ops (i+2)).dst=some (RN (oA ops (i+2))):=by kernel_rfl) (g1:(oA ops i).guard=none:=by kernel_rfl) (g2:(oA ops (i+1)).guard=none:=by kernel_rfl) (g3:(oA ops (i+2)).guard=none:=by kernel_rfl) (hN:(Nat.blt (RN (oA ops i)) N&&Nat.blt (RN (oA ops (i+1))) N&&Nat.blt (RN (oA ops (i+2))) N&&!Nat.beq (RN (oA ops i)) (RN (oA ops (i+1)))&&!Nat.beq (Z7 (oA ops (i+1))) (RN (oA ops i))&&Nat.blt 0 sz&&Nat.blt (i+2) ops.size)=true:=by kernel_rfl) (ht:P.underlying t=some (.slice e):=by kernel_rfl) (hf:Rd P N (oA ops (i+2))=true:=by kernel_rfl):RW P N ops i E Q:=by
 obtain⟨l',hl',h⟩:=Ar.1 h;simp only [Ak,CP]at hN;obtain⟨⟨⟨⟨⟨⟨q1,q2⟩,q3⟩,q4⟩,q5⟩,q6⟩,q7⟩:=hN;have b2:Nat.blt (i+1) ops.size=true:=by rw [Bl]at q7⊢;omega
 have b1:Nat.blt i ops.size=true:=by rw [Bl]at q7⊢;omega
 have hk':=hk l' hl' h;unfold RW at hk'⊢;rw [Gg b1,Gg b2,Gg q7];exact vJ (hs l' hl') hk' b d hpin hx c hp hc f hm h1 h2 h3 k1 k2 k3 g1 g2 g3 q1 q2 q3 q4 q5 q6 ht (MZ hf).choose_spec.choose_spec.2.1
theorem AAV {f:FuncId} {c:Code} {a cells':List TV} {b:SV} (hf:P.funcs[f]?=some fn) (hb:fn.body=some c) (hN:fn.ntmps=N) (h:∀b0,Wp P N c (D7 (.ext a::as) (dT b0)) λe E=>(e= .normal\/e= .ret)/\∃ss E',DM P E fn.results.toList=some (ss,E')/\Eu ss=b/\E'.boxes (.ext 0)=some cells') (d:cells'.isEmpty=false:=by rfl):AN P f (.ext a::as) b (.ext cells'::List.replicate as.length .gone):=WX dT tT hf hb (by rw [hN];exact h) d
def bI (P:Program) (N:Nat) (ops:Array Oper) (E:St) (i:Nat):Option (FuncId×Array Value×Int×Int):=bif Pq P ops E i&&Gc N (oA ops i)then
 (match(oA ops i).op with
 | .call c=>match c.callee,c.args.toList with
  | .value (.tmp t),[o1,o2]=>match E.slots t,E.cell1 P 0 o1,E.cell1 P 0 o2 with
   | .one (.fn (.func g) fr cap),some (.int .i64 x),some (.int .i64 y)=>bif fr.isEmpty then some (g,cap,x,y)else none
   |_,_,_=>none
  |_,_=>none
 |_=>none)else none
theorem Zg {g:FuncId} {cap:Array Value} {x y:Int} (h:bI P N ops E i=some (g,cap,x,y)):Pq P ops E i=true/\(∃d,(oA ops i).dst=some d/\Nat.blt d N=true)/\∃t o1 o2 tys,(oA ops i).op= .call {callee:= .value (.tmp t),args:= #[o1,o2],argTypes:=tys}/\E.slots t= .one (.fn (.func g) #[] cap)/\E.cell1 P 0 o1=some (.int .i64 x)/\E.cell1 P 0 o2=some (.int .i64 y):=by
 unfold bI at h
 cases hb:(Pq P ops E i&&Gc N (oA ops i))with
 |false=>rw [hb]at h;cases h
 |true=>
  rw [hb]at h;simp only [Af]at h;simp only [Ak]at hb;obtain⟨d,h1,h2,_⟩:=EC hb.2;refine⟨hb.1,⟨d,h1,h2⟩,?_⟩;split at h
  ·rename_i c hc;split at h
   ·rename_i t o1 o2 k1 k2;split at h
    ·rename_i g' fr cap' x' y' m1 m2 m3
     cases he:fr.isEmpty with
     |false=>rw [he]at h;cases h
     |true=>
      rw [he]at h;simp only [Af,Al,Bo]at h;obtain⟨rfl,rfl,rfl,rfl⟩:=h;have a:fr= #[]:=by simpa using he
      subst a;refine⟨t,o1,o2,c.argTypes,?_,m1,m2,m3⟩;have ha:c.args= #[o1,o2]:=Array.toList_inj.1 k2;rw [hc];cases c;simp only at k1 ha;rw [k1,ha]
    cases h
   cases h
  cases h
theorem mG {rr:β} {lt:γ->γ->Bool} {l:List γ} {k:γ×γ->Option β} {g:FuncId} {cap:Array Value} (a:IX P Am lt g cap) {x y:Int} (h:(oO l x y).bind k=some rr) (hk:∀v,k v=some rr->RW P N ops (i+1) (E.put (oA ops i).dst (.one (.bool (lt v.1 v.2)))) Q) (hc:bI P N ops E i=some (g,cap,x,y):=by kernel_rfl) (hA:E.amb=Am l:=by kernel_rfl):RW P N ops i E Q:=by
 obtain⟨h1,⟨d,h2,h3⟩,t,o1,o2,tys,h4,h5,h6,h7⟩:=Zg hc;obtain⟨h8,h9⟩:=Hs h1;unfold RW;rw [Gg h8];exact vK a h d (λv hv=>by have:=hk v hv;rw [h2]at this;exact this) hA h4 h5 h6 h7 h2 h3 h9
theorem mF {rr:β} {l:List γ} {k:List γ->Option β} {cap:Array Value} (a:Lt P Am sf cap) (hB:∀l l',(Am l).B=(Am l').B/\(Am l).pin=none) {x y:Int} (h:(gE l x y).bind k=some rr) (hk:∀v,k v=some rr->RW P N ops (i+1) (({E with amb:=Am v}:St).put (oA ops i).dst (.tup [])) Q) (hc:bI P N ops E i=some (sf,cap,x,y):=by kernel_rfl) (hA:E.amb=Am l:=by kernel_rfl):RW P N ops i E Q:=by
 obtain⟨h1,⟨d,h2,h3⟩,t,o1,o2,tys,h4,h5,h6,h7⟩:=Zg hc;obtain⟨h8,h9⟩:=Hs h1;unfold RW;rw [Gg h8];exact vH a hB h d (λv hv=>by have:=hk v hv;rw [h2]at this;exact this) hA h4 h5 h6 h7 h2 h3 h9
def wH (P:Program) (N:Nat) (ops:Array Oper) (E:St) (i:Nat):Option (FuncId×List AV):=bif Pq P ops E i&&Gc N (oA ops i)then
 (match(oA ops i).op with
 | .call c=>match c.callee with
  | .value (.func f)=>match P.funcs[f]? with
   |some fn=>match I2 P E ((c.argTypes.toList.zip c.args.toList).map λ(t,x)=>(false,t,x)) (List.replicate c.args.size none)with
    | some (l, b) => bif b && (l.all jF && (!(fn.name == "runtime.NumGoroutine") && (!fn.body.isNone && Nat.beq c.argTypes.size c.args.size))) then some (f, l) else none
    |none=>none
   |none=>none
  |_=>none
 |_=>none)else none
theorem Qn {rr:β} {f:FuncId} {l:List AV} {xl:List γ} {k:List γ->Option β} {x:Option (List γ)} (h:x.bind k=some rr) (hB:∀l l',(Am l).B=(Am l').B/\(Am l).pin=none) (e:∀v,x=some v->Lu P f (Am xl) l (Am v)) (hk:∀v,k v=some rr->RW P N ops (i+1) (({E with amb:=Am v}:St).put (oA ops i).dst (.tup [])) Q) (hc:wH P N ops E i=some (f,l):=by kernel_rfl) (hA:E.amb=Am xl:=by kernel_rfl):RW P N ops i E Q:=by
 unfold wH at hc
 cases hb:(Pq P ops E i&&Gc N (oA ops i))with
 |false=>rw [hb]at hc;cases hc
 |true=>
  rw [hb]at hc;simp only [Af]at hc;simp only [Ak]at hb;obtain⟨d,h1,h2,_⟩:=EC hb.2;obtain⟨h8,h9⟩:=Hs hb.1;split at hc
  ·rename_i c g;split at hc
   ·rename_i f' a;split at hc
    ·rename_i fn j;split at hc
     ·rename_i l' b m
      cases hq : (b && (l'.all jF && (!(fn.name == "runtime.NumGoroutine") && (!fn.body.isNone && Nat.beq c.argTypes.size c.args.size)))) with
      |false=>rw [hq]at hc;cases hc
      |true=>
       rw [hq]at hc;simp only [Af,Al,Bo]at hc;obtain⟨rfl,rfl⟩:=hc;simp only [Ak,CP]at hq;obtain⟨rfl,q1,q2,q3,q4⟩:=hq;unfold RW;rw [Gg h8];refine yU (fn:=fn) h d Am (A:=Am xl) (args:=c.args) (tys:=c.argTypes) ?_ hA (λv=>⟨(hB _ _).1,(hB _ v).2⟩) m (Xv q1) e (λv _ hv=>by have:=hk v hv;rw [h1]at this;exact this) j q2 q3 h1 h2 (B3 q4) h9;rw [g];cases c;simp only at a;rw [a]
     cases hc
    cases hc
   cases hc
  cases hc
theorem ra {Am:α->Pk} {e:Exit} {v r:α} (h:some v=some r) (he:e= .normal\/e= .ret:=by first|exact .inr rfl|exact .inl rfl) (hA:E.amb=Am v:=by kernel_rfl):(e= .normal\/e= .ret)/\E.amb=Am r:=by
 injection h with h
 rw [<-h];exact⟨he,hA⟩
end Go.TI
