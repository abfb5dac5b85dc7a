/- What walks of Go code need. No condition. -/
import Derived.Test.YtiemmklnnjembaaGreatCHT2
import Derived.KernelRfl
import Derived.Laws.StructEq
import Derived.Laws.Strings
namespace Go.TI
open Go Go.RowKit
def iA {γ:Type} (P:Program) (f:FuncId) (t e sz:Nat) (enc:γ->List TV) (g:FuncId) (l l':List γ):Prop:=
 ∀(w:World) (b:Nat) (v:Value) (T:TypeId),w.heap[b]?=some (.cells #[v] T (0,0))->w.ownsRow 0 e sz v l.length ((AN enc l).map TV.val)->b∉Cz v->
  Calls P f #[.iface t v,.func (.func g) #[] #[.pointer (some ⟨b,0,none⟩)]] w fun r w'=>r= .returned (.tuple #[])/\Iz w w' (b::Cz v)/\w'.heap[b]?=some (.cells #[v] T (0,0))/\w'.ownsRow 0 e sz v l'.length ((AN enc l').map TV.val)
section
variable {w0:Base} {FA UA:List Nat} {N:Nat} {w:World} {a:Act} {E:St} {blk:Root->Nat} {FS US:Root->List Nat} {P:Program}
theorem CB.turn (h:CB w0 FA UA N w a E blk FS US) (hF:FS .hand=[]) (hU:US .hand=[]) {r:Root} (hm:r.mem=true) {cells cells':List TV} (hc:E.boxes r=some cells) (k:cells'.length=cells.length) {w':World} (hb:Iz w w' (FS r))
  (f:∃cur T F,w'.heap[blk r]?=some (.cells cur T (0,0))/\Bw w' cells' cur.toList F (US r)/\FS r=blk r::F):
  ∃FS' US',CB w0 FA UA N w' a ((E.setRoot r cells').bump r) blk FS' US'/\FS' .hand=[]/\US' .hand=[]:=by
 have g:r≠ .hand:=by rintro rfl;cases hm
 have d:∀j,((E.setRoot r cells').bump r).place r [] j=cells'[j]? :=by
  intro j
  cases r with
  |slot n=>cases hm
  |hand=>cases hm
  |box n=>simp [St.place,St.bump,St.setRoot,St.root,Cc,BQ]
  |ext n=>simp [St.place,St.bump,St.setRoot,St.root,Cc,BQ]
 have c:∀j,E.place r [] j=cells[j]? :=by
  intro j
  cases r with
  |slot n=>cases hm
  |hand=>cases hm
  |box n=>simp [St.place,St.root,hc,BQ]
  |ext n=>simp [St.place,St.root,hc,BQ]
 let E1:St:=(E.setRoot r cells').bump r
 have ev:∀s,s≠r->E1.ver s=E.ver s:=by
  intro s hs;cases r<;>simp [E1,St.bump,St.setRoot,Cc,hs]
 have evr:E1.ver r=E.ver r+1:=by cases r<;>simp [E1,St.bump,St.setRoot,Cc]
 have eg:∀s,E1.gen s=E.gen s:=by intro s;cases r<;>rfl
 have er:∀s,s≠r->E1.root s=E.root s:=by
  intro s hs
  cases r with
  |slot n=>cases hm
  |hand=>cases hm
  |box n=>cases s<;>simp [E1,St.bump,St.setRoot,St.root,Cc,hs]
  |ext n=>cases s<;>simp [E1,St.bump,St.setRoot,St.root,Cc,hs]
 have es:∀n,E1.slots n=E.slots n:=by
  intro n
  cases r with
  |slot n=>cases hm
  |hand=>cases hm
  |box n=>rfl
  |ext n=>rfl
 have eb:∀s,E1.boxes s=if s=r then some cells' else E.boxes s:=by
  intro s
  cases r with
  |slot n=>cases hm
  |hand=>cases hm
  |box n=>rfl
  |ext n=>rfl
 have i:∀s,Ck w w' a a E E1 blk blk s:=by
  intro s;by_cases hs:s=r
  ·subst hs;refine⟨.inl (by rw [evr];omega),.inr ⟨eg s,fun j ad hv hp=>?_⟩⟩;refine⟨(by cases s<;>first|exact hv|(cases hm)),?_⟩;rw [c]at hp;rw [show E1.place s [] j=cells'[j]? from d j];have hj:j<cells.length:=by
    rcases Dk j cells.length with q|q
    ·exact q
    ·rw [Di q]at hp;cases hp
   rw [Ab (by omega)];rfl
  ·by_cases hh:s= .hand
   ·subst hh;exact Fu (ev _ hs) (eg _) (by simp [St.root,h.nohand])
   ·exact DB h (ev s hs) (eg s) (er s hs) (fun _ _=>rfl) (fun _=>rfl)
     (fun b hx=>hb.keep b (h.inF s b hx).2 (h.dis s r hs b hx)) (fun b hx=>hb.keep b (h.inU s b hx).2 (fun e=>h.disU r s b e hx))
 have k7:=h.two (w':=w') (a':=a) (E':=E1) (blk':=blk) (r1:=r) (r2:= .hand) (L1:=FS r) (L2:=[]) (V1:=US r) (V2:=[]) g
  (by simpa using h.nodup r)
  (fun b hx=>⟨.inl (by simpa using hx),Bf (h.inF r b (by simpa using hx)).2 hb.size⟩)
  (fun b hx=> .inl ⟨r,by simpa using hx⟩)
  hb.size hb.os hb.tape hb.output (fun b hx q _=>hb.keep b hx q) i (fun n _ _=>⟨es n,rfl⟩) (fun s _ hs _=>⟨by rw [eb,A0 hs],rfl⟩)
  (by
   obtain⟨cur,T,F,g1,g2,g3⟩:=f;have:FY w' a E1 blk r (FS r) (US r):=by
    have e1:=eb r;rw [Ay rfl]at e1
    cases r with
    |slot n=>cases hm
    |hand=>cases hm
    |box n=>exact .inr ⟨cells',cur,T,F,e1,g1,g2,g3⟩
    |ext n=>exact .inr ⟨cells',cur,T,F,e1,g1,g2,g3⟩
   exact this)
  trivial (by rw [eb,A0 (E6 g)];exact h.nohand) h.len h.nodef (hfz:=by
   intro n hn;have e:((E.setRoot r cells').bump r).fz=E.fz:=by rw [O8,Hd]
   exact h.frz n (e▸hn)) (hamb:=by show((E.setRoot r cells').bump r).amb=E.amb;rw [KE,EB])
 exact⟨_,_,k7,BO _ _ _,BO _ _ _⟩
theorem mF (h:CB w0 FA UA N w a E blk FS US) (hF:FS .hand=[]) (hU:US .hand=[]) {d:Nat} (hd:d<N) (v:Value):∃FS' US',CB w0 FA UA N w (a.put (some d) v) (E.put (some d) (.one .junk)) blk FS' US'/\FS' .hand=[]/\US' .hand=[]:=
 h.land (w':=w) (F:=[]) (U:=[]) hd (by simp [Eq,CE,TV.isJunk]) CJ (by simp) (by simp) (A4 _) rfl rfl rfl (fun _ _ _=>rfl)
theorem IL {γ:Type} {enc:γ->List TV} (a:∀x,(enc x).all TV.flat=true):∀l:List γ,(AN enc l).all TV.flat=true
 |[]=>rfl
 |x::l=>by
  have:AN enc (x::l)=enc x++AN enc l:=by simp [AN]
  rw [this,List.all_append,a,IL a l];rfl
end
section
variable {N:Nat} {E:St} {P:Program} {ops:Array Oper} {rest:List Oper} {Q:Exit->St->Prop} {γ:Type}
theorem O0 {o:Oper} (h:o.guard=none):Bm P ops E o=some true:=by unfold Bm;rw [h]
theorem AC3 {α β:Type} {l:List Oper} {x:Option α} {k:α->Option β} {rr:β} (h:x.bind k=some rr) (hk:∀v,x=some v->k v=some rr->A3 P N ops l E Q):A3 P N ops l E Q:=by
 obtain⟨v,hv,h⟩:=Aq.1 h;exact hk v hv h
theorem A3.srt {enc:γ->List TV} {sz e t:Nat} {f lfn:FuncId} {l l':List γ} {r:Root} {o1 o2 o3:Oper} {d1 d2 d3 x p:Nat} {ver:Nat} {tys:Array TypeId} (hs:iA P f t e sz enc lfn l l')
  (hk:A3 P N ops rest (((((E.put (some d1) (.one .junk)).put (some d2) (.one .junk)).setRoot r [.sl true e sz (AN enc l')]).bump r).put (some d3) (.tup [])) Q)
  (h:∀x,(enc x).length=sz) (b:∀x,(enc x).all TV.flat=true)
  (hx:E.slots x= .one (.view r ver [] 0):=by rfl) (i:E.ver r=ver:=by rfl) (hp:E.ptr? (.tmp p)=some (r,[],0):=by rfl) (hc:E.boxes r=some [.sl true e sz (AN enc l)]:=by rfl) (hm:r.mem=true:=by rfl)
  (h1:o1.op= .makeInterface t (.tmp x):=by rfl) (h2:o2.op= .makeFunc (.func lfn) #[] #[.tmp p]:=by rfl) (h3:o3.op= .call {callee:= .value (.func f),args:= #[.tmp d1,.tmp d2],argTypes:=tys}:=by rfl)
  (k1:o1.dst=some d1:=by rfl) (k2:o2.dst=some d2:=by rfl) (k3:o3.dst=some d3:=by rfl) (g1:o1.guard=none:=by rfl) (g2:o2.guard=none:=by rfl) (g3:o3.guard=none:=by rfl)
  (m:Nat.blt d1 N=true:=by rfl) (o:Nat.blt d2 N=true:=by rfl) (u:Nat.blt d3 N=true:=by rfl) (y:Nat.beq d1 d2=false:=by rfl) (j:Nat.beq p d1=false:=by rfl) (z:Nat.blt 0 sz=true:=by rfl)
  (ht:P.underlying t=some (.slice e):=by rfl) (hf:gT P f):A3 P N ops (o1::o2::o3::rest) E Q:=by
 have hN1':d1<N:=by simpa [Bv]using m
 have hN2':d2<N:=by simpa [Bv]using o
 have hN3':d3<N:=by simpa [Bv]using u
 have hne':d1≠d2:=by intro e;subst e;simp at y
 have hne2':p≠d1:=by intro e;subst e;simp at j
 have hsz':0<sz:=by simpa [Bv]using z
 intro w0 FA UA w a blk FS US hr hF hU;have k:∃v T F,w.heap[blk r]?=some (.cells #[v] T (0,0))/\C7 w (.sl true e sz (AN enc l)) v F (US r)/\FS r=blk r::F:=by
  rcases hr.box r hm with⟨q1,_⟩|⟨cs,cur,T,F,q1,q2,q3,q4⟩
  ·rw [hc]at q1;cases q1
  ·rw [hc]at q1
   injection q1 with q1
   subst q1;simp only [Bw]at q3;obtain⟨v,vs',F1,F2,U1,U2,e1,rfl,e3,q5,rfl,rfl,rfl⟩:=q3;have:cur= #[v]:=by apply n7;simpa using e1
   subst this;rw [As]at q4;rw [e3,As];exact⟨v,T,F1,q2,q5,q4⟩
 obtain⟨v,T,F,b1,b2,b3⟩:=k;simp only [C7]at b2;obtain⟨n,vs,F',b4,b5,rfl⟩:=b2;have h0:=W7 b5 (IL b l);obtain⟨rfl,a1⟩:=Np b5 (IL b l);subst h0;have h4:n=l.length:=by
  have q:=b4.1;rw [Bu,E5 h l]at q;exact(Nat.eq_of_mul_eq_mul_right hsz' q).symm
 subst h4;rw [As]at b3;have h5:blk r∉Cz v:=by
  have:=hr.nodup r;rw [b3]at this;exact(Dz.1 this).1
 have evx:a.eval (.tmp x)=v:=by
  have q:=hr.slot x;rw [hx]at q;simp only [Eq,CE]at q;obtain⟨⟨_,_,_,q4⟩,_⟩:=q;obtain⟨q5,_⟩:=q4 i
  cases r with
  |slot n=>cases hm
  |hand=>cases hm
  |box n=>simpa [pv,BS,Addr.add,World.cell?,b1]using q5.symm
  |ext n=>simpa [pv,BS,Addr.add,World.cell?,b1]using q5.symm
 have evp:a.eval (.tmp p)= .pointer (some ⟨blk r,0,none⟩):=by
  obtain⟨_,ad,q1,q2⟩:=Lp hr hp;rw [q2]
  cases r with
  |slot n=>cases hm
  |hand=>cases hm
  |box n=>simp [pa,Addr.add]at q1;rw [<-q1]
  |ext n=>simp [pa,Addr.add]at q1;rw [<-q1]
 obtain⟨FS1,US1,r1,r2,r3⟩:=mF hr hF hU hN1' (.iface t v);have e1:(execOp a.eval o1).run P w= .ok (.value (.iface t v)) w:=by
  simp [execOp,h1,Instr.makeInterface,run_underlying ht,evx]
 simp only [wpList,Ct hr (O0 (P:=P) (ops:=ops) g1),Cd];refine .inl ?_
 try unfold Oper.wp
 rw [e1,Oper.upon_value,k1];have evp1:(a.put (some d1) (.iface t v)).eval (.tmp p)= .pointer (some ⟨blk r,0,none⟩):=by rw [D3 hne2',evp]
 obtain⟨FS2,US2,s1,s2,s3⟩:=mF r1 r2 r3 hN2' (.func (.func lfn) #[] #[.pointer (some ⟨blk r,0,none⟩)]);have e2:(execOp (a.put (some d1) (.iface t v)).eval o2).run P w= .ok (.value (.func (.func lfn) #[] #[.pointer (some ⟨blk r,0,none⟩)])) w:=by
  simp [execOp,h2,Instr.makeFunc,evp1]
 simp only [wpList,Ct r1 (O0 (P:=P) (ops:=ops) g2),Cd];refine .inl ?_
 try unfold Oper.wp
 rw [e2,Oper.upon_value,k2];simp only [wpList,Ct s1 (O0 (P:=P) (ops:=ops) g3),Cd];refine .inl ?_;have h6:d1<a.tmps.size:=Bf hN1' hr.len;have h7:d2<(a.put (some d1) (.iface t v)).tmps.size:=Bf hN2' r1.len
 try unfold Oper.wp
 rw [IE h3 hf];have ea: #[Operand.tmp d1,.tmp d2].map ((a.put (some d1) (.iface t v)).put (some d2) (.func (.func lfn) #[] #[.pointer (some ⟨blk r,0,none⟩)])).eval= #[.iface t v,.func (.func lfn) #[] #[.pointer (some ⟨blk r,0,none⟩)]]:=by
  simp [Hu h7,D3 hne',Hu h6]
 rw [ea];simp only [Oper.upon];refine Calls.mono (hs w (blk r) v T b1 b4 h5) ?_;rintro ee w' ⟨rfl,h8,h9,a0⟩;have c:((E.put (some d1) (.one .junk)).put (some d2) (.one .junk)).boxes r=some [.sl true e sz (AN enc l)]:=hc;have g:∃F2,FS2 r=blk r::F2/\F2=Cz v/\US2 r=[]:=by
  rcases s1.box r hm with⟨q1,_⟩|⟨cs,cur,T2,F2,q1,q2,q3,q4⟩
  ·rw [c]at q1;cases q1
  ·rw [c]at q1
   injection q1 with q1
   subst q1;rw [b1]at q2
   injection q2 with q2
   injection q2 with q2
   subst q2;simp only [Bw]at q3;obtain⟨v2,vs',F3,F4,U1,U2,e1,rfl,e3,q5,rfl,rfl,rfl⟩:=q3;simp at e1;subst e1;simp only [C7]at q5;obtain⟨n,vs,F',c4,c5,rfl⟩:=q5;obtain⟨rfl,rfl⟩:=Np c5 (IL b l);rw [As]at e3;exact⟨_,q4,by simp,e3⟩
 obtain⟨F2,f1,rfl,f3⟩:=g;obtain⟨FS3,US3,t1,t2,t3⟩:=s1.turn s2 s3 hm c (cells':=[.sl true e sz (AN enc l')]) rfl (w':=w') (by rw [f1];exact h8)
  ⟨#[v],T,Cz v,h9,by
   rw [f3];simp only [Bw];refine⟨v,[],Cz v,[],[],[],rfl,by simp,rfl,?_,rfl,rfl,rfl⟩;simp only [C7]
   exact⟨l'.length,_,[],a0,Vo (IL b l'),by simp⟩,f1⟩
 obtain⟨FS4,US4,u1,u2,u3⟩:=t1.land (w':=w') (d:=d3) (s:= .tup []) (v:= .tuple #[]) (F:=[]) (U:=[]) hN3' (by simp [Eq,Nd]) CJ (by simp) (by simp) (A4 _) rfl rfl rfl (fun _ _ _=>rfl);rw [k3];exact hk _ _ _ _ _ _ _ _ u1 u2 u3
end
def ABp (b:Nat) (v:Value) (T:TypeId) (e sz n:Nat) (xs:List Value):HL where
 B:=b::Cz v
 I:=fun w=>w.heap[b]?=some (.cells #[v] T (0,0))/\w.ownsRow 0 e sz v n xs
 st:=fun w w' h hk=>⟨by rw [hk b (by simp)];exact h.1,h.2.1,by
  rcases h.2.2 with q|⟨g,cap,cur,rfl,q1,q2,q3⟩
  ·exact .inl q
  ·exact .inr ⟨g,cap,cur,rfl,q1,by rw [hk g (by simp [Cz,Value.ownBlock])];exact q2,q3⟩⟩
theorem yT {γ:Type} {n b g cap:Nat} {e T:TypeId} {sz:Nat} {enc:γ->List TV} (a:∀x,(enc x).length=sz) {l:List γ} {i:Int} {x:γ} {k:Nat} {t:TV} {ad:Addr} (hi:gi l i=some x) (hk:(enc x)[k]?=some t) (hb:b≠g) (d:ad=⟨g,i.toNat*sz+k,none⟩):(MT n b g cap e T sz enc l).rd ad=some t.val:=by
 subst d;obtain⟨i0,i1⟩:=MH hi;have lm:=(Ah.1 i1).1;have c:=(Ah.1 hk).1;rw [a]at c;have f:(i.toNat+1)*sz<=l.length*sz:=Cl _ lm;rw [DR]at f;have e1:(AN enc l)[i.toNat*sz+k]?=(enc x)[k]? :=by
  have h2:(AN enc l)[i.toNat*sz+k]?=((AN enc l).drop (i.toNat*sz))[k]? :=by rw [Ca]
  rw [h2,LB a l i.toNat,Bq lm,Xi];have e4:l[i.toNat]=x:=by rw [Ab lm]at i1;injection i1
  rw [e4,AP (by rw [a];exact c)]
 simp only [MT,Ie,Cr,Jt];rw [A0 (fun e=>hb e.symm),Cd,Ay (by omega),Bc,e1,hk];rfl
theorem yU {γ:Type} {n b g cap:Nat} {e T:TypeId} {sz:Nat} {enc:γ->List TV} {l:List γ}:(MT n b g cap e T sz enc l).rd ⟨b,0,none⟩=some (.slice (some ⟨g,0,none⟩) n cap):=by
 simp [MT]
theorem ACk {g m:Nat}:((⟨g,0,none⟩:Addr).add m)=⟨g,m,none⟩:=by
 unfold Addr.add;split
 ·rename_i h;subst h;rfl
 ·simp
theorem ACc {α:Type} {l:List α} {i:Int} {x:α} (h:gi l i=some x):0<=i/\i<l.length:=by
 obtain⟨i0,i1⟩:=MH h;have lm:=(Ah.1 i1).1;exact⟨i0,by omega⟩
end Go.TI
namespace Go.TI
open Go Go.RowKit
def vN (t t':TV):Prop:=t=t'\/∃e sz cells cells',t= .sl true e sz cells/\BG cells=cells'/\t'= .sl false e sz cells'
def tR:List TV->List TV->Prop
 |[],ts'=>ts'=[]
 |t::ts,ts'=>∃x xs,ts'=x::xs/\vN t x/\tR ts xs
mutual
def OM:SV->SV->Prop
 | .one t,s'=>∃t',s'= .one t'/\vN t t'
 | .agg cs,s'=>∃cs',s'= .agg cs'/\tR cs cs'
 | .tup ss,s'=>∃ss',s'= .tup ss'/\La ss ss'
def La:List SV->List SV->Prop
 |[],ss'=>ss'=[]
 |s::ss,ss'=>∃x xs,ss'=x::xs/\OM s x/\La ss xs
end
theorem AB9 {t:TV}:vN t t:= .inl rfl
theorem zV:∀{ts:List TV},tR ts ts
 |[]=>rfl
 |t::ts=>⟨t,ts,rfl,AB9,zV⟩
theorem tR.c {t x:TV} {ts xs:List TV} (h:vN t x) (k:tR ts xs):tR (t::ts) (x::xs):=⟨x,xs,rfl,h,k⟩
theorem vN.s {e sz:Nat} {cells cells':List TV} (h:BG cells=cells'):vN (.sl true e sz cells) (.sl false e sz cells'):= .inr ⟨e,sz,cells,cells',rfl,h,rfl⟩
mutual
theorem iE:∀{s:SV},OM s s
 | .one t=>⟨t,rfl,AB9⟩
 | .agg cs=>⟨cs,rfl,zV⟩
 | .tup ss=>⟨ss,rfl,iD⟩
theorem iD:∀{ss:List SV},La ss ss
 |[]=>rfl
 |s::ss=>⟨s,ss,rfl,iE,iD⟩
end
theorem ACV {cs cs':List TV} (h:tR cs cs'):OM (.agg cs) (.agg cs'):=⟨cs',rfl,h⟩
theorem OM.o {t t':TV} (h:vN t t'):OM (.one t) (.one t'):=⟨t',rfl,h⟩
theorem ACU {ss ss':List SV} (h:La ss ss'):OM (.tup ss) (.tup ss'):=⟨ss',rfl,h⟩
theorem La.c {s x:SV} {ss xs:List SV} (h:OM s x) (k:La ss xs):La (s::ss) (x::xs):=⟨x,xs,rfl,h,k⟩
def EY (F U F' U':List Nat):Prop:=F'.Sublist F/\∀b∈U',b∈U\/(b∈F/\b∉F')
theorem L9 {F1 F2 U1 U2 F1' F2' U1' U2':List Nat} (hd:(F1++F2).Nodup) (h:EY F1 U1 F1' U1') (k:EY F2 U2 F2' U2'):EY (F1++F2) (U1++U2) (F1'++F2') (U1'++U2'):=by
 obtain⟨_,_,hd⟩:=Bj.1 hd;refine⟨h.1.append k.1,fun b hb=>?_⟩
 rcases Aj.1 hb with hb|hb
 ·rcases h.2 b hb with q|⟨q1,q2⟩
  ·exact .inl (by simp [q])
  ·refine .inr ⟨by simp [q1],fun hc=>?_⟩
   rcases Aj.1 hc with hc|hc
   ·exact q2 hc
   ·exact hd b q1 b (k.1.subset hc) rfl
 ·rcases k.2 b hb with q|⟨q1,q2⟩
  ·exact .inl (by simp [q])
  ·refine .inr ⟨by simp [q1],fun hc=>?_⟩
   rcases Aj.1 hc with hc|hc
   ·exact hd b (h.1.subset hc) b q1 rfl
   ·exact q2 hc
theorem EY.refl {F U:List Nat}:EY F U F U:=⟨List.Sublist.refl _,fun b hb=> .inl hb⟩
theorem pY {w:World} {t t':TV} {v:Value} {F U:List Nat} (h:C7 w t v F U) (k:vN t t'):∃F' U',C7 w t' v F' U'/\EY F U F' U':=by
 rcases k with rfl|⟨e,sz,cells,cells',rfl,rfl,rfl⟩
 ·exact⟨F,U,h,EY.refl⟩
 ·obtain⟨U',h1,h2⟩:=PR h;exact⟨[],U',h1,List.nil_sublist _,fun b hb=>(h2 b hb).elim (fun q=> .inr ⟨q,by simp⟩) .inl⟩
theorem tD {w:World}:∀{ts ts':List TV} {vs:List Value} {F U:List Nat},Bw w ts vs F U->tR ts ts'->F.Nodup->∃F' U',Bw w ts' vs F' U'/\EY F U F' U'
 |[],ts',vs,F,U,h,k,_=>by
  simp only [tR]at k;subst k;exact⟨F,U,h,EY.refl⟩
 |t::ts,ts',vs,F,U,h,k,hn=>by
  simp only [Bw]at h;obtain⟨v,vs',F1,F2,U1,U2,rfl,rfl,rfl,h1,h2⟩:=h;obtain⟨x,xs,rfl,k1,k2⟩:=k;obtain⟨F1',U1',a1,a2⟩:=pY h1 k1;obtain⟨F2',U2',b1,b2⟩:=tD h2 k2 (Bj.1 hn).2.1;exact⟨_,_,by simp only [Bw];exact⟨v,vs',F1',F2',U1',U2',rfl,rfl,rfl,a1,b1⟩,L9 hn a2 b2⟩
mutual
theorem xW {w:World}:∀{s s':SV} {v:Value} {F U:List Nat},Qn w s v F U->OM s s'->F.Nodup->∃F' U',Qn w s' v F' U'/\EY F U F' U'
 | .one t,s',v,F,U,h,k,_=>by
  simp only [Qn]at h;obtain⟨t',rfl,k⟩:=k;obtain⟨F',U',h1,h2⟩:=pY h.1 k;exact⟨F',U',by simp only [Qn];exact⟨h1,h.2⟩,h2⟩
 | .agg cs,s',v,F,U,h,k,hn=>by
  simp only [Qn]at h;obtain⟨cs',rfl,k⟩:=k;obtain⟨vs,rfl,h⟩:=h;obtain⟨F',U',h1,h2⟩:=tD h k hn;exact⟨F',U',by simp only [Qn];exact⟨vs,rfl,h1⟩,h2⟩
 | .tup ss,s',v,F,U,h,k,hn=>by
  simp only [Qn]at h;obtain⟨ss',rfl,k⟩:=k;obtain⟨vs,rfl,h⟩:=h;obtain⟨F',U',h1,h2⟩:=sS h k hn;exact⟨F',U',by simp only [Qn];exact⟨vs,rfl,h1⟩,h2⟩
theorem sS {w:World}:∀{ss ss':List SV} {vs:List Value} {F U:List Nat},LG w ss vs F U->La ss ss'->F.Nodup->∃F' U',LG w ss' vs F' U'/\EY F U F' U'
 |[],ss',vs,F,U,h,k,_=>by
  simp only [La]at k;subst k;exact⟨F,U,h,EY.refl⟩
 |s::ss,ss',vs,F,U,h,k,hn=>by
  simp only [LG]at h;obtain⟨v,vs',F1,F2,U1,U2,rfl,rfl,rfl,h1,h2⟩:=h;obtain⟨x,xs,rfl,k1,k2⟩:=k;obtain⟨a,b,_⟩:=Bj.1 hn;obtain⟨F1',U1',a1,a2⟩:=xW h1 k1 a;obtain⟨F2',U2',b1,b2⟩:=sS h2 k2 b;exact⟨_,_,by simp only [LG];exact⟨v,vs',F1',F2',U1',U2',rfl,rfl,rfl,a1,b1⟩,L9 hn a2 b2⟩
end
theorem Zx.le {w w':World} {FA UA:List Nat} {res res':SV} {fin fin':List AV} {vs:List Value} {v:Value} {F U G V F' U' G' V':List Nat} (h:Zx w w' FA UA res fin vs v F U G V) (h1:Qn w' res' v F' U') (h2:Ic w' fin' vs G' V') (h3:EY (F++G) (U++V) (F'++G') (U'++V')):Zx w w' FA UA res' fin' vs v F' U' G' V':=by
 exact{
  res:=h1
  fin:=h2
  nodup:=h3.1.nodup h.nodup
  dis:=fun b hb hb'=>by
   rcases h3.2 b hb' with q|⟨q1,q2⟩
   ·exact h.dis b (h3.1.subset hb) q
   ·exact q2 hb
  inF:=fun b hb=>h.inF b (h3.1.subset hb)
  inU:=fun b hb=>by
   rcases h3.2 b hb with q|⟨q1,q2⟩
   ·exact h.inU b q
   ·obtain⟨q3,q4⟩:=h.inF b q1;exact⟨.inr q3,q4⟩
  os:=h.os
  tape:=h.tape
  output:=h.output
  size:=h.size
  keep:=h.keep}
theorem wA {P:Program} {f:FuncId} {fn:Func} {c:Code} {as:List AV} {res:SV} (hf:P.funcs[f]?=some fn) (hb:fn.body=some c)
  (h:Wp P fn.ntmps c (DT as) fun e E=>(e= .normal\/e= .ret)/\∃ss E',Ew P E fn.results.toList=some (ss,E')/\OM (EU ss) res):
  AW P f as res (List.replicate as.length .gone):=by
 intro w vs FA UA ha j i k;obtain⟨blk,FS,US,hr,hF,hU⟩:=NC (N:=fn.ntmps) ha j i k (A:=HL.none) (fz:=none) trivial (fun b hb=>by cases hb);refine calls_of_wp hf hb (wp_mono (h _ _ _ _ _ _ _ _ hr hF hU) ?_);rintro e a w' ⟨E,blk',FS',US',⟨he,ss,E',h1,l⟩,h2,h3,h4⟩;obtain⟨us,FS2,US2,F,U,k1,k2,k3,k4,k5⟩:=IF h2 h1;rw [h3,A7]at k4;rw [h4,A7]at k5;have g:∀(n:Nat) (vs:List Value),vs.length=n->Ic w' (List.replicate n .gone) vs [] []:=by
  intro n
  induction n with
  |zero=>intro vs hv;simp at hv;subst hv;exact⟨rfl,rfl,rfl⟩
  |succ n ih=>
   intro vs hv
   cases vs with
   |nil=>simp at hv
   |cons v vs=>exact⟨v,vs,[],[],[],[],rfl,rfl,rfl,⟨rfl,rfl⟩,ih vs (by simpa using hv)⟩
 have m:vs.length=as.length:=by
  obtain⟨_,_,_,_,h5,_⟩:=NA ha;exact h5
 have o:F.Nodup:=by rw [<-k4];exact k3.nodup .hand
 have d:a.defers=[]/\∃v,(results fn a.tmps).run P w'= .ok v w'/\∃v' F U G V,Ending.returned v= .returned v'/\Zx w w' FA UA res (List.replicate as.length .gone) vs v' F U G V:=by
  have hL:Zx w w' FA UA (EU ss) (List.replicate as.length .gone) vs _ F U [] []:={
   res:=MC k2
   fin:=g _ _ m
   nodup:=by simpa [<-k4]using k3.nodup .hand
   dis:=by
    intro b hb hb';simp only [As]at hb hb';rw [<-k4]at hb;rw [<-k5]at hb';exact k3.disU .hand .hand b hb hb'
   inF:=by
    intro b hb;simp only [As]at hb;rw [<-k4]at hb;exact k3.inF .hand b hb
   inU:=by
    intro b hb;simp only [As]at hb;rw [<-k5]at hb;exact k3.inU .hand b hb
   os:=k3.os
   tape:=k3.tape
   output:=k3.output
   size:=k3.size
   keep:=fun b hb hF=>k3.keep b hb hF (fun e=>by cases e)}
  obtain⟨F',U',q1,q2⟩:=xW hL.res l o;exact⟨h2.nodef,_,K8 k1,_,F',U',[],[],rfl,hL.le q1 hL.fin (by simpa using q2)⟩
 rcases he with rfl|rfl
 ·exact d
 ·exact d
section
variable {N:Nat} {E:St} {P:Program} {ops:Array Oper} {oo:Oper} {rest:List Oper} {Q:Exit->St->Prop} {α β:Type} {rr:β}
end
end Go.TI
namespace Go.TI
open Go Go.RowKit
def oA (ops:Array Oper) (i:Nat):Oper:=match ops[i]? with
 |some o=>o
 | none => { dst := none, op := .load 0 (.tmp 0), type := 0, pos := "", after := #[], guard := none }
theorem HC {ops:Array Oper} {i:Nat} (h:Nat.blt i ops.size=true):ops[i]?=some (oA ops i):=by
 have:i<ops.size:=by simpa [Bv]using h
 unfold oA;rw [Array.getElem?_eq_getElem this]
theorem Qi {ops:Array Oper} {i:Nat} (h:Nat.blt i ops.size=true):ops.toList.drop i=oA ops i::ops.toList.drop (i+1):=by
 have hi:i<ops.toList.length:=by simpa [Bv]using h
 have h1:=HC h;rw [<-Array.getElem?_toList,Ab hi]at h1
 injection h1 with h1
 rw [Bq hi,h1]
def UC (P:Program) (ops:Array Oper) (E:St) (i:Nat):Bool:=Nat.blt i ops.size&&(match Bm P ops E (oA ops i)with|some b=>b|none=>false)
theorem Ir {P:Program} {ops:Array Oper} {E:St} {i:Nat} (h:UC P ops E i=true):Nat.blt i ops.size=true/\Bm P ops E (oA ops i)=some true:=by
 simp only [UC,An]at h;refine⟨h.1,?_⟩;have h2:=h.2;split at h2
 ·rename_i b hb;rw [hb,h2]
 ·cases h2
def G6 (N:Nat) (o:Oper):Bool:=match o.dst with
 |some d=>Nat.blt d N
 |none=>false
theorem EO {N:Nat} {o:Oper} (h:G6 N o=true):∃d,o.dst=some d/\Nat.blt d N=true/\d<N:=by
 unfold G6 at h;split at h
 ·rename_i d hd;exact⟨d,hd,h,by simpa [Bv]using h⟩
 ·cases h
def yA (P:Program) (N:Nat) (ops:Array Oper) (mv:Bool) (E:St) (i:Nat):Option St:=bif Nat.blt i ops.size then
  match Bm P ops E (oA ops i)with
  |some true=>BX P N mv E (oA ops i)
  |some false=>bif G6 N (oA ops i)then some (E.put (oA ops i).dst (.tup []))else none
  |none=>none
 else none
def lC (P:Program) (N:Nat) (ops:Array Oper):Nat->Nat->Nat->St->Option St
 |0,_,_,E=>some E
 |k+1,m,i,E=>match yA P N ops (Nat.beq (m %2) 1) E i with
  |some E'=>lC P N ops k (m/2) (i+1) E'
  |none=>none
def ACu (P:Program) (N:Nat) (ops:Array Oper) (k m i:Nat) (E:St):St:=(lC P N ops k m i E).getD E
theorem getD_some {α:Type _} {x:Option α} {a:α} (h:x.isSome=true):x=some (x.getD a):=by
 cases x with
 |none=>cases h
 |some y=>rfl
def RW (P:Program) (N:Nat) (ops:Array Oper) (i:Nat) (E:St) (Q:Exit->St->Prop):Prop:=A3 P N ops (ops.toList.drop i) E Q
def SW (P:Program) (N:Nat) (ops:Array Oper) (m i:Nat) (E:St) (K:St->Prop):Prop:=Js P N ops ((ops.toList.take m).drop i) E K
section
variable {P:Program} {N:Nat} {E:St} {ops:Array Oper} {i m:Nat} {Q:Exit->St->Prop} {K:St->Prop} {α β:Type} {r:β}
theorem bd {x:Option α} {k:α->Option β} {G:Prop} (h:x.bind k=some r) (hk:∀a,x=some a->k a=some r->G):G:=by
 obtain⟨a,ha,h⟩:=Aq.1 h;exact hk a ha h
theorem RW.nil (h:Q .normal E) (hi:Nat.ble ops.size i=true:=by kernel_rfl):RW P N ops i E Q:=by
 have:ops.size<=i:=by simpa [Qr]using hi
 unfold RW;rw [C8 (by simpa using this)];exact A3.nil h
theorem CR {mv:Bool} {E':St} (hs:BX P N mv E (oA ops i)=some E') (h:RW P N ops (i+1) E' Q) (hk:UC P ops E i=true:=by kernel_rfl):RW P N ops i E Q:=by
 obtain⟨h1,h2⟩:=Ir hk;unfold RW;rw [Qi h1];exact A3.op mv h2 hs h
theorem RW.st {E':St} {mv:Bool} (hs:yA P N ops mv E i=some E') (h:RW P N ops (i+1) E' Q):RW P N ops i E Q:=by
 unfold yA at hs
 cases hi:Nat.blt i ops.size with
 |false=>rw [hi]at hs;cases hs
 |true=>
  rw [hi]at hs;simp only [Af]at hs;unfold RW;rw [Qi hi];split at hs
  ·rename_i hg;exact A3.op mv hg hs h
  ·rename_i hg
   cases hd:G6 N (oA ops i)with
   |false=>rw [hd]at hs;cases hs
   |true=>
    rw [hd]at hs;simp only [Af]at hs
    injection hs with hs
    subst hs;obtain⟨d,h1,_,h2⟩:=EO hd;rw [h1]at h;exact nU h1 h2 hg h
  ·cases hs
theorem RW.run:∀{k m i:Nat} {E E':St},lC P N ops k m i E=some E'->RW P N ops (i+k) E' Q->RW P N ops i E Q
 |0,m,i,E,E',h,hw=>by
  simp only [lC]at h
  injection h with h
  subst h;exact hw
 |k+1,m,i,E,E',h,hw=>by
  simp only [lC]at h;split at h
  ·rename_i E1 h1;exact RW.st h1 (RW.run h (by rw [GT,UH 1 k];exact hw))
  ·cases h
theorem Ai (k m:Nat) (h:RW P N ops (i+k) (ACu P N ops k m i E) Q) (hk:(lC P N ops k m i E).isSome=true:=by kernel_rfl):RW P N ops i E Q:=RW.run (getD_some hk) h
def qok (P:Program) (N:Nat) (ops:Array Oper) (i:Nat) (E:St):Bool:=UC P ops E i&&pk (oA ops i)&&G6 N (oA ops i)
theorem qA (h:qok P N ops i E=true):UC P ops E i=true/\pk (oA ops i)=true/\∃d,(oA ops i).dst=some d/\Nat.blt d N=true/\d<N:=by
 simp only [qok,An]at h;exact⟨h.1.1,h.1.2,EO h.2⟩
theorem RW.q {s:SV} (hp:Bh P E (oA ops i)=some s) (h:RW P N ops (i+1) (E.put (oA ops i).dst s) Q) (hk:qok P N ops i E=true:=by kernel_rfl):RW P N ops i E Q:=by
 obtain⟨h1,h2,d,h3,h4,_⟩:=qA hk;rw [h3]at h;exact CR (H0 hp h3 h4 h2) h h1
theorem AO {tx ty:Option β} {b:Bool} (t:Nat) (h:(bif b then tx else ty)=some r) (ht:tx=some r->RW P N ops i (E.rs t true) Q) (hf:ty=some r->RW P N ops i (E.rs t false) Q) (hc:E.slots t=B b:=by kernel_rfl):RW P N ops i E Q:=PB h t ht hf hc
theorem O4 (h:Nat.blt i ops.size=true) (hm:Nat.blt i m=true):(ops.toList.take m).drop i=oA ops i::(ops.toList.take m).drop (i+1):=by
 have hi:i<ops.size:=by simpa [Bv]using h
 have a:i<m:=by simpa [Bv]using hm
 have hl:i<(ops.toList.take m).length:=by simp;omega
 have h1:=HC h;rw [Bq hl];congr 1;rw [Et];rw [<-Array.getElem?_toList,Ab (by simpa using hi)]at h1;injection h1
theorem SW.nil (h:K E) (hi:(Nat.ble ops.size i||Nat.ble m i)=true:=by kernel_rfl):SW P N ops m i E K:=by
 unfold SW
 rw [C8 (by
  rw [Da]at hi
  rcases hi with hi|hi
  ·have:ops.size<=i:=by simpa [Qr]using hi
   simp;omega
  ·have:m<=i:=by simpa [Qr]using hi
   simp;omega)]
 exact Js.nil h
def oL (P:Program) (N:Nat) (ops:Array Oper) (m:Nat) (E:St) (i:Nat):Option St:=bif Nat.blt i ops.size&&Nat.blt i m&&G6 N (oA ops i)then
  match Bm P ops E (oA ops i)with
  |some true=>match Ik P E (oA ops i)with
   |some s=>some (E.put (oA ops i).dst s)
   |none=>none
  |some false=>some (E.put (oA ops i).dst (.tup []))
  |none=>none
 else none
def ZD (P:Program) (N:Nat) (ops:Array Oper) (m:Nat):Nat->Nat->St->Option St
 |0,_,E=>some E
 |k+1,i,E=>match oL P N ops m E i with
  |some E'=>ZD P N ops m k (i+1) E'
  |none=>none
theorem SW.st {E':St} (hs:oL P N ops m E i=some E') (h:SW P N ops m (i+1) E' K):SW P N ops m i E K:=by
 unfold oL at hs
 cases hb:(Nat.blt i ops.size&&Nat.blt i m&&G6 N (oA ops i))with
 |false=>rw [hb]at hs;cases hs
 |true=>
  rw [hb]at hs;simp only [Af]at hs;simp only [An]at hb;obtain⟨d,h1,_,h2⟩:=EO hb.2;unfold SW;rw [O4 hb.1.1 hb.1.2];split at hs
  ·rename_i hg;split at hs
   ·rename_i s a
    injection hs with hs
    subst hs;rw [h1]at h;exact Js.op s hg h1 h2 a h
   ·cases hs
  ·rename_i hg
   injection hs with hs
   subst hs;rw [h1]at h;exact AAM h1 h2 hg h
  ·cases hs
theorem SW.run:∀{k i:Nat} {E E':St},ZD P N ops m k i E=some E'->SW P N ops m (i+k) E' K->SW P N ops m i E K
 |0,i,E,E',h,hw=>by
  simp only [ZD]at h
  injection h with h
  subst h;exact hw
 |k+1,i,E,E',h,hw=>by
  simp only [ZD]at h;split at h
  ·rename_i E1 h1;exact SW.st h1 (SW.run h (by rw [GT,UH 1 k];exact hw))
  ·cases h
theorem Dn (k:Nat) (h:SW P N ops m (i+k) ((ZD P N ops m k i E).getD E) K) (hk:(ZD P N ops m k i E).isSome=true:=by kernel_rfl):SW P N ops m i E K:=SW.run (getD_some hk) h
theorem SW.q {s:SV} (hp:Bh P E (oA ops i)=some s) (h:SW P N ops m (i+1) (E.put (oA ops i).dst s) K) (hk:(qok P N ops i E&&Nat.blt i m)=true:=by kernel_rfl):SW P N ops m i E K:=by
 rw [An]at hk;obtain⟨h1,h2,d,h3,h4,h5⟩:=qA hk.1;obtain⟨h6,h7⟩:=Ir h1;rw [h3]at h;unfold SW;rw [O4 h6 hk.2];exact Js.op s h7 h3 h5 (s9 hp h2) h
theorem X3 {tx ty:Option β} {b:Bool} (t:Nat) (h:(bif b then tx else ty)=some r) (ht:tx=some r->SW P N ops m i (E.rs t true) K) (hf:ty=some r->SW P N ops m i (E.rs t false) K) (hc:E.slots t=B b:=by kernel_rfl):SW P N ops m i E K:=ACT h t ht hf hc
def lsd (n:Nat):List Nat->Array Bool
 |[]=>Array.replicate n false
 |i::l=>(lsd n l).setIfInBounds i true
def KW (P:Program) (N:Nat) (ops:Array Oper) (ts:List Nat) (dn:List Nat) (E:St) (Q:Exit->St->Prop):Prop:=Dl P N ops ts (ops.size-dn.length) (lsd ops.size dn) E Q
def KB (P:Program) (N:Nat) (ops:Array Oper) (ts:List Nat) (dn:List Nat) (i:Nat) (E:St) (Q:Exit->St->Prop):Prop:=D7 P N ops ts i E (fun E'=>KW P N ops ts (i::dn) E' Q) Q
variable {ts dn:List Nat}
theorem Bk (h:Q .normal E) (hr:(Region.ready .any ops (lsd ops.size dn)).isEmpty=true:=by kernel_rfl):KW P N ops ts dn E Q:=DL h (by simpa using hr)
def wV (ops:Array Oper) (dn l:List Nat):Bool:=(Region.ready .any ops (lsd ops.size dn)==l)&&Nat.blt dn.length ops.size
theorem RO (h:Nat.blt dn.length ops.size=true):ops.size-dn.length=(ops.size-(i::dn).length)+1:=by
 have:dn.length<ops.size:=by simpa [Bv]using h
 simp only [Ax];omega
theorem KW.all (l:List Nat) (h:∀i∈l,KB P N ops ts dn i E Q) (a:l≠ []) (hr:wV ops dn l=true):KW P N ops ts dn E Q:=by
 simp only [wV,An,Cw]at hr;unfold KW;rw [RO (i:=0) hr.2];exact Dl.all l (fun i hi=>h i hi) hr.1 a
theorem B8 (i:Nat) (h:KB P N ops ts dn i E Q) (hr:wV ops dn [i]=true:=by kernel_rfl):KW P N ops ts dn E Q:=KW.all [i] (fun j hj=>by simp only [A6]at hj;subst hj;exact h) (by simp) hr
theorem DW (i j:Nat) (h:KB P N ops ts dn i E Q) (h2:KB P N ops ts dn j E Q) (hr:wV ops dn [i,j]=true:=by kernel_rfl):KW P N ops ts dn E Q:=KW.all [i,j] (fun m hm=>by
 simp only [B7,Kh,qF]at hm
 rcases hm with rfl|rfl<;>assumption) (by simp) hr
theorem bB (i j k:Nat) (h:KB P N ops ts dn i E Q) (h2:KB P N ops ts dn j E Q) (h3:KB P N ops ts dn k E Q) (hr:wV ops dn [i,j,k]=true:=by kernel_rfl):KW P N ops ts dn E Q:=KW.all [i,j,k] (fun m hm=>by
 simp only [B7,Kh,qF]at hm
 rcases hm with rfl|rfl|rfl<;>assumption) (by simp) hr
theorem ACm (i j k l:Nat) (h:KB P N ops ts dn i E Q) (h2:KB P N ops ts dn j E Q) (h3:KB P N ops ts dn k E Q) (h4:KB P N ops ts dn l E Q) (hr:wV ops dn [i,j,k,l]=true:=by kernel_rfl):KW P N ops ts dn E Q:=KW.all [i,j,k,l] (fun m hm=>by
 simp only [B7,Kh,qF]at hm
 rcases hm with rfl|rfl|rfl|rfl<;>assumption) (by simp) hr
theorem Ms {mv:Bool} {E':St} (hs:BX P N mv E (oA ops i)=some E') (h:KW P N ops ts (i::dn) E' Q) (hk:(UC P ops E i&&(kp (oA ops i)||ts.contains i))=true:=by kernel_rfl):KB P N ops ts dn i E Q:=by
 rw [An]at hk;obtain⟨h1,h2⟩:=Ir hk.1;exact D7.op i mv h hs (HC h1) h2 hk.2
theorem KB.q {s:SV} (hp:Bh P E (oA ops i)=some s) (h:KW P N ops ts (i::dn) (E.put (oA ops i).dst s) Q) (hk:(qok P N ops i E&&(kp (oA ops i)||ts.contains i))=true:=by kernel_rfl):KB P N ops ts dn i E Q:=by
 rw [An]at hk;obtain⟨h1,h2,d,h3,h4,h5⟩:=qA hk.1;rw [h3]at h;exact Ms (H0 hp h3 h4 h2) h (by rw [h1,hk.2];rfl)
def n9 (ops:Array Oper) (ts dn:List Nat) (i:Nat):Bool:=Nat.blt dn.length ops.size&&Qe ops ts ops.size i (lsd ops.size dn)
theorem AC5 {s:SV} (i:Nat) (hp:Ik P E (oA ops i)=some s) (h:KW P N ops ts (i::dn) (E.put (oA ops i).dst s) Q) (hk:(UC P ops E i&&G6 N (oA ops i)&&n9 ops ts dn i)=true):KW P N ops ts dn E Q:=by
 simp only [An,n9]at hk;obtain⟨⟨h1,h2⟩,h3,h4⟩:=hk;obtain⟨h5,h6⟩:=Ir h1;obtain⟨d,h7,h8,_⟩:=EO h2;unfold KW at h⊢;rw [RO (i:=i) h3];rw [h7]at h;exact Dl.take ops.size i d s h hp (HC h5) h4 h6 h7 h8
theorem KW.q {s:SV} (i:Nat) (hp:Bh P E (oA ops i)=some s) (h:KW P N ops ts (i::dn) (E.put (oA ops i).dst s) Q) (hk:(qok P N ops i E&&n9 ops ts dn i)=true:=by kernel_rfl):KW P N ops ts dn E Q:=by
 rw [An]at hk;have h0:=hk.1;simp only [qok,An]at h0;exact AC5 i (s9 hp h0.1.2) h (by rw [h0.1.1,h0.2,hk.2];rfl)
theorem ADF (i:Nat) (h:KW P N ops ts (i::dn) (E.put (oA ops i).dst (.tup [])) Q) (hg:Bm P ops E (oA ops i)=some false) (hk:(Nat.blt i ops.size&&G6 N (oA ops i)&&n9 ops ts dn i)=true):KW P N ops ts dn E Q:=by
 simp only [An,n9]at hk;obtain⟨⟨h1,h2⟩,h3,h4⟩:=hk;obtain⟨d,h7,h8,_⟩:=EO h2;unfold KW at h⊢;rw [RO (i:=i) h3];rw [h7]at h;exact iI ops.size i d h (HC h1) h4 hg h7 h8
def zX (P:Program) (N:Nat) (ops:Array Oper) (ts:List Nat) (mv:Bool) (dn:List Nat) (E:St) (i:Nat):Option St:=match Bm P ops E (oA ops i)with
 |some false=>bif Nat.blt i ops.size&&G6 N (oA ops i)&&n9 ops ts dn i then some (E.put (oA ops i).dst (.tup []))else none
 |some true=>bif Nat.blt i ops.size&&G6 N (oA ops i)&&n9 ops ts dn i&&!mv then
   (match Ik P E (oA ops i)with
   |some s=>some (E.put (oA ops i).dst s)
   |none=>bif wV ops dn [i]&&(kp (oA ops i)||ts.contains i)then BX P N mv E (oA ops i)else none)
  else bif Nat.blt i ops.size&&wV ops dn [i]&&(kp (oA ops i)||ts.contains i)then BX P N mv E (oA ops i)else none
 |none=>none
def vO (P:Program) (N:Nat) (ops:Array Oper) (ts:List Nat):List Nat->Nat->List Nat->St->Option St
 |[],_,_,E=>some E
 |i::l,m,dn,E=>match zX P N ops ts (Nat.beq (m %2) 1) dn E i with
  |some E'=>vO P N ops ts l (m/2) (i::dn) E'
  |none=>none
def e8:List Nat->List Nat->List Nat
 |[],dn=>dn
 |i::l,dn=>e8 l (i::dn)
theorem KW.st {i:Nat} {mv:Bool} {E':St} (hs:zX P N ops ts mv dn E i=some E') (h:KW P N ops ts (i::dn) E' Q):KW P N ops ts dn E Q:=by
 unfold zX at hs;split at hs
 ·rename_i hg
  cases hb:(Nat.blt i ops.size&&G6 N (oA ops i)&&n9 ops ts dn i)with
  |false=>rw [hb]at hs;cases hs
  |true=>
   rw [hb]at hs;simp only [Af]at hs
   injection hs with hs
   subst hs;exact ADF i h hg hb
 ·rename_i hg;have one:(Nat.blt i ops.size&&wV ops dn [i]&&(kp (oA ops i)||ts.contains i))=true->BX P N mv E (oA ops i)=some E'->KW P N ops ts dn E Q:=by
   intro hb hs;simp only [An]at hb;refine B8 i (Ms hs h ?_) hb.1.2;simp only [UC,hb.1.1,hg,hb.2,IQ]
  cases hb:(Nat.blt i ops.size&&G6 N (oA ops i)&&n9 ops ts dn i&&!mv)with
  |false=>
   rw [hb]at hs;simp only [Ad]at hs
   cases a:(Nat.blt i ops.size&&wV ops dn [i]&&(kp (oA ops i)||ts.contains i))with
   |false=>rw [a]at hs;cases hs
   |true=>rw [a]at hs;exact one a hs
  |true=>
   rw [hb]at hs;simp only [Af]at hs;simp only [An]at hb;split at hs
   ·rename_i s b
    injection hs with hs
    subst hs;refine AC5 i b h ?_;simp only [UC,hb.1.1.1,hb.1.1.2,hb.1.2,hg,IQ]
   ·cases a:(wV ops dn [i]&&(kp (oA ops i)||ts.contains i))with
    |false=>rw [a]at hs;cases hs
    |true=>rw [a]at hs;exact one (by rw [hb.1.1.1,CU];exact a) hs
 ·cases hs
theorem KW.run:∀{l:List Nat} {m:Nat} {dn:List Nat} {E E':St},vO P N ops ts l m dn E=some E'->KW P N ops ts (e8 l dn) E' Q->KW P N ops ts dn E Q
 |[],m,dn,E,E',h,hw=>by
  simp only [vO]at h
  injection h with h
  subst h;exact hw
 |i::l,m,dn,E,E',h,hw=>by
  simp only [vO]at h;split at h
  ·rename_i E1 h1;exact KW.st h1 (KW.run h hw)
  ·cases h
theorem Bl (l:List Nat) (m:Nat) (h:KW P N ops ts (e8 l dn) ((vO P N ops ts l m dn E).getD E) Q) (hk:(vO P N ops ts l m dn E).isSome=true:=by kernel_rfl):KW P N ops ts dn E Q:=KW.run (getD_some hk) h
theorem ND {tx ty:Option β} {b:Bool} (t:Nat) (h:(bif b then tx else ty)=some r) (ht:tx=some r->KW P N ops ts dn (E.rs t true) Q) (hf:ty=some r->KW P N ops ts dn (E.rs t false) Q) (hc:E.slots t=B b:=by kernel_rfl):KW P N ops ts dn E Q:=AC4 h t ht hf hc
theorem Au {id:Nat} (h:RW P N ops 0 E Q):Wp P N (.region id ops false) E Q:=by
 have:=Wp.region (id:=id) (l:=ops.toList) (P:=P) (N:=N) (E:=E) (Q:=Q) (by simpa [RW]using h);simpa using this
theorem KF {id:Nat} (hm:P.follows .mixedOrders=true) (h:SW P N ops ops.size 0 E (fun E'=>Q .normal E')) (hB:Region.lexB .any ops=true:=by kernel_rfl):Wp P N (.region id ops true) E Q:=by
 have:=X1 (id:=id) (l:=ops.toList) (P:=P) (N:=N) (E:=E) (Q:=Q) hm (by simpa using hB) (by
  have h2:=h;unfold SW at h2;rw [AZ (by simp)]at h2
  simpa using h2)
 simpa using this
theorem Sv {id:Nat} (n:Nat) (hm:P.follows .mixedOrders=true) (h:SW P N ops n 0 E (fun E'=>RW P N ops n E' Q)) (hB:Region.lexTailB .any ops n=true:=by kernel_rfl):Wp P N (.region id ops true) E Q:=by
 have:=rX (id:=id) (l:=ops.toList) (P:=P) (N:=N) (E:=E) (Q:=Q) n hm (by simpa using hB) (by simpa [SW,RW]using h);simpa using this
theorem DZ {id:Nat} (ts:List Nat) (hm:P.follows .mixedOrders=true) (hQ:∀c E,Q (.panic c) E->False) (h:KW P N ops ts [] E Q):Wp P N (.region id ops true) E Q:=
 X2 ops.size ts hm hQ (by simpa [KW,lsd]using h) rfl
end
end Go.TI
namespace Go.TI
open Go Go.RowKit
def ZP (E:St) (x:Operand) (sz:Nat):Option (List TV):=match E.ref x with
 |some (r,q,j)=>match E.place r q j with
  |some (.sl _ _ s cells)=>bif Nat.beq s sz then some cells else none
  |_=>none
 |none=>none
theorem Og {E:St} {x:Operand} {sz:Nat} {cells:List TV} (h:ZP E x sz=some cells):∃r q j own e,E.ref x=some (r,q,j)/\E.place r q j=some (.sl own e sz cells):=by
 unfold ZP at h;split at h
 ·rename_i r q j hr;split at h
  ·rename_i own e s cells' hp
   cases hs:Nat.beq s sz with
   |false=>rw [hs]at h;cases h
   |true=>
    rw [hs]at h;simp only [Af]at h
    injection h with h
    have:=Bn hs;subst h this;exact⟨r,q,j,own,e,hr,hp⟩
  ·cases h
 ·cases h
def UF (P:Program) (t:TypeId):TypeId:=match P.underlying t with
 |some (.slice e)=>e
 |_=>0
def S6 (P:Program) (t:TypeId) (sz:Nat):Bool:=match P.underlying t with
 |some (.slice e)=>Nat.beq (P.cellsOf e) sz&&Nat.blt 0 sz
 |_=>false
theorem Km {P:Program} {t:TypeId} {sz:Nat} (h:S6 P t sz=true):∃e,P.underlying t=some (.slice e)/\P.cellsOf e=sz/\Nat.blt 0 sz=true:=by
 unfold S6 at h;split at h
 ·rename_i e he;rw [An]at h;exact⟨e,he,Bn h.1,h.2⟩
 ·cases h
def G5 (E:St) (x:Operand):Root×List Nat×Nat:=(E.ptr? x).getD (.hand,[],0)
def J8 (E:St) (x:Operand):Root×List Nat×Nat:=(E.ref x).getD (.hand,[],0)
def Pq (E:St) (x:Operand):Option (List TV×Nat):=match E.ptr? x with
 |some (r,q,j)=>match(E.root r).bind fun cs=>BQ cs q with
  |some row=>some (row,j)
  |none=>none
 |none=>none
theorem Pp {E:St} {x:Operand} {row:List TV} {j:Nat} (h:Pq E x=some (row,j)):E.ptr? x=some ((G5 E x).1,(G5 E x).2.1,j)/\(E.root (G5 E x).1).bind (fun cs=>BQ cs (G5 E x).2.1)=some row:=by
 unfold Pq at h;split at h
 ·rename_i r q j' hp;split at h
  ·rename_i row' hr
   injection h with h
   injection h with h1 h2
   subst h1 h2;simp only [G5,hp,Bb];exact⟨trivial,hr⟩
  ·cases h
 ·cases h
theorem u6 {E:St} {x:Operand} {r:Root} {q:List Nat} {j:Nat} {row:List TV} (h1:E.ptr? x=some (r,q,j)) (h2:(E.root r).bind (fun cs=>BQ cs q)=some row):Pq E x=some (row,j):=by
 unfold Pq;rw [h1];simp only [h2]
section
variable {P:Program} {N:Nat} {E:St} {o:Oper} {α:Type} {f:α->List TV} {sz:Nat} {l:List α} {n:Int} {x:α}
def EZ (o:Oper):TypeId×Operand×Operand:=match o.op with
 | .indexAddr t a i=>(t,a,i)
 |_=>(0,.tmp 0,.tmp 0)
def vR (o:Oper):Bool:=match o.op with
 | .indexAddr .. =>true
 |_=>false
theorem fL (h:vR o=true):o.op= .indexAddr (EZ o).1 (EZ o).2.1 (EZ o).2.2:=by
 unfold vR at h;unfold EZ;split at h
 ·rename_i h1;simp only [h1]
 ·cases h
def Qy (P:Program) (E:St) (x:Operand):Option Int:=match E.cell1 P 0 x with
 |some (.int _ n)=>some n
 |_=>none
theorem Hr {x:Operand} (h:Qy P E x=some n):∃k,E.cell1 P 0 x=some (.int k n):=by
 unfold Qy at h;split at h
 ·rename_i k m hc
  injection h with h
  subst h;exact⟨k,hc⟩
 ·cases h
def zZ (P:Program) (E:St) (o:Oper) (sz:Nat):Option (List TV×Int):=bif vR o&&S6 P (EZ o).1 sz then(match ZP E (EZ o).2.1 sz,Qy P E (EZ o).2.2 with
 |some c,some n=>some (c,n)
 |_,_=>none)else none
def mG (E:St) (o:Oper) (m:Nat):SV:= .one (.ptr (J8 E (EZ o).2.1).1 (E.ver (J8 E (EZ o).2.1).1) ((J8 E (EZ o).2.1).2.1++ [(J8 E (EZ o).2.1).2.2]) m)
theorem IR (hf:∀x,(f x).length=sz) (hx:gi l n=some x) (hc:zZ P E o sz=some (AN f l,n):=by kernel_rfl):Bh P E o=some (mG E o (n.toNat*sz+0)):=by
 unfold zZ at hc
 cases hb:(vR o&&S6 P (EZ o).1 sz)with
 |false=>rw [hb]at hc;cases hc
 |true=>
  rw [hb]at hc;simp only [Af]at hc;rw [An]at hb;split at hc
  ·rename_i c n' h1 h2
   injection hc with hc
   injection hc with a b
   subst a b;obtain⟨r,q,j,own,e',h3,h4⟩:=Og h1;obtain⟨k,h5⟩:=Hr h2;obtain⟨e,h6,h7,h8⟩:=Km hb.2;have:=vA hf r q j hx h4 (fL hb.1) h6 h5 h3 h7 h8;rw [this];simp only [mG,J8,h3,Bb]
  ·cases hc
theorem ADo {α':Type} {f':α'->List TV} {sz':Nat} {l':List α'} {n':Int} {x':α'} (hf:∀x,(f x).length=sz) (hx:gi l n=some x) (hf':∀x,(f' x).length=sz') (hx':gi l' n'=some x') (k:Nat)
  (hi:(vR o&&S6 P (EZ o).1 sz&&Nat.blt k sz')=true:=by kernel_rfl) (hn:Qy P E (EZ o).2.2=some n:=by kernel_rfl)
  (hr:E.ref (EZ o).2.1=some ((J8 E (EZ o).2.1).1,(J8 E (EZ o).2.1).2.1,n'.toNat*sz'+k):=by kernel_rfl) (hp:(E.root (J8 E (EZ o).2.1).1).bind (fun cs=>BQ cs (J8 E (EZ o).2.1).2.1)=some (AN f' l'):=by kernel_rfl)
  {own:Bool} {e':Nat} (hc:(f' x')[k]?=some (.sl own e' sz (AN f l)):=by rfl):Bh P E o=some (mG E o (n.toNat*sz+0)):=by
 simp only [An]at hi;obtain⟨k',h5⟩:=Hr hn;obtain⟨e,h6,h7,h8⟩:=Km hi.1.2;have a:E.place (J8 E (EZ o).2.1).1 (J8 E (EZ o).2.1).2.1 (n'.toNat*sz'+k)=some (.sl own e' sz (AN f l)):=by
  obtain⟨cs,h1,h2⟩:=Aq.1 hp;simp only [St.place,h1,Aa,h2];rw [MI hf' hx' (by simpa [Bv]using hi.2),hc]
 have:=vA hf _ _ _ hx a (fL hi.1.1) h6 h5 hr h7 h8;have hj:(J8 E (EZ o).2.1).2.2=n'.toNat*sz'+k:=BH (fun z:Option (Root×List Nat×Nat)=>(z.getD (Root.hand,[],0)).2.2) hr;rw [this,mG,hj]
theorem pr2 {α':Type} {f':α'->List TV} {sz':Nat} {l':List α'} {n':Int} {x':α'} {a:Operand} {row:List TV} {j:Nat} (q0:Nat) (hf':∀x,(f' x).length=sz') (hx':gi l' n'=some x') (k:Nat) (h1:E.ptr? a=some ((G5 E a).1,[q0,n'.toNat*sz'+k],j):=by kernel_rfl)
  (hc:(E.root (G5 E a).1).bind (fun cs=>BQ cs [q0])=some (AN f' l'):=by kernel_rfl) (b:BQ (f' x') [k]=some row:=by kernel_rfl) (hk:Nat.blt k sz'=true:=by kernel_rfl):Pq E a=some (row,j):=by
 refine u6 h1 ?_;obtain⟨cs,h2,h3⟩:=Aq.1 hc;have h4:=uB hf' hx' (q:=[]) (show k<sz' by simpa [Bv]using hk);rw [h2];simp only [Aa];simp only [BQ]at h3;split at h3
 ·rename_i o' e' s' cells c
  injection h3 with h3
  subst h3;simp only [BQ,c];simp only [BQ]at h4 b;rw [h4];exact b
 ·cases h3
def P4 (o:Oper):TypeId×Operand×Nat:=match o.op with
 | .fieldAddr t a i=>(t,a,i)
 |_=>(0,.tmp 0,0)
def ACI (o:Oper):Bool:=match o.op with
 | .fieldAddr .. =>true
 |_=>false
theorem ABx (h:ACI o=true):o.op= .fieldAddr (P4 o).1 (P4 o).2.1 (P4 o).2.2:=by
 unfold ACI at h;unfold P4;split at h
 ·rename_i h1;simp only [h1]
 ·cases h
def ACd (P:Program) (o:Oper):Option Nat:=match P.underlying (P4 o).1 with
 |some (.struct fs)=>match fs[(P4 o).2.2]? with
  |some fd=>bif Nat.beq (P.cellsOf fd.type) 0 then none else some fd.offset
  |none=>none
 |_=>none
def ADA (E:St) (o:Oper) (m:Nat):SV:= .one (.ptr (G5 E (P4 o).2.1).1 (E.stamp (G5 E (P4 o).2.1).1 (G5 E (P4 o).2.1).2.1) (G5 E (P4 o).2.1).2.1 m)
theorem D8 (hf:∀x,(f x).length=sz) (hx:gi l n=some x) (k m:Nat) (hr:Pq E (P4 o).2.1=some (AN f l,n.toNat*sz+k):=by kernel_rfl) (ho:(ACI o&&Nat.blt m sz)=true:=by kernel_rfl) (a:ACd P o=some (m-k):=by kernel_rfl) (b:Nat.ble k m=true:=by kernel_rfl):Bh P E o=some (ADA E o (n.toNat*sz+m)):=by
 rw [An]at ho;obtain⟨h1,h2⟩:=Pp hr;have d:k<=m:=by simpa [Qr]using b
 unfold ACd at a;split at a
 ·rename_i fs hs;split at a
  ·rename_i fd c
   cases hb:Nat.beq (P.cellsOf fd.type) 0 with
   |true=>rw [hb]at a;cases a
   |false=>
    rw [hb]at a;simp only [Ad]at a
    injection a with a
    have hm:k+fd.offset=m:=by omega
    exact AD5 hf _ _ k hx h2 (ABx ho.1) hs h1 c hb hm (by rw [hm];exact ho.2)
  ·cases a
 ·cases a
def ME (o:Oper):TypeId×Operand:=match o.op with
 | .load t a=>(t,a)
 |_=>(0,.tmp 0)
def ABw (o:Oper):Bool:=match o.op with
 | .load .. =>true
 |_=>false
theorem tU (h:ABw o=true):o.op= .load (ME o).1 (ME o).2:=by
 unfold ABw at h;unfold ME;split at h
 ·rename_i h1;simp only [h1]
 ·cases h
def ACa (P:Program) (o:Oper) (k sz:Nat):Bool:=ABw o&&!Xz P (ME o).1&&Nat.beq (P.cellsOf (ME o).1) 1&&(P.underlying (ME o).1).isSome&&Nat.blt k sz
def ACb (P:Program) (o:Oper) (k m sz:Nat):Bool:=ABw o&&Xz P (ME o).1&&Nat.beq (P.cellsOf (ME o).1) m&&Nat.ble (k+m) sz
def ldC (E:St) (o:Oper) (j:Nat) (u:TV):SV:= .one (see E (G5 E (ME o).2).1 (G5 E (ME o).2).2.1 j u)
def ldA (E:St) (o:Oper) (j:Nat) (us:List TV):SV:= .agg (Qq E (G5 E (ME o).2).1 (G5 E (ME o).2).2.1 j us)
theorem CA (hf:∀x,(f x).length=sz) (hx:gi l n=some x) (k:Nat) (hr:Pq E (ME o).2=some (AN f l,n.toNat*sz+k):=by kernel_rfl) (ho:ACa P o k sz=true:=by kernel_rfl):Bh P E o=some (ldC E o (n.toNat*sz+k) (((f x)[k]?).getD .junk)):=by
 simp only [ACa,An,Dm]at ho;obtain⟨⟨⟨⟨h3,h4⟩,h5⟩,h6⟩,h7⟩:=ho;obtain⟨h1,h2⟩:=Pp hr;have hk:k<(f x).length:=by rw [hf];simpa [Bv]using h7
 refine ACz hf _ _ k _ hx h2 (tU h3) h1 h4 (Bn h5) h6 h7 ?_;rw [Ab hk];rfl
theorem Re (hf:∀x,(f x).length=sz) (hx:gi l n=some x) (k m:Nat) (hr:Pq E (ME o).2=some (AN f l,n.toNat*sz+k):=by kernel_rfl) (ho:ACb P o k m sz=true:=by kernel_rfl):Bh P E o=some (ldA E o (n.toNat*sz+k) (((f x).drop k).take m)):=by
 simp only [ACb,An]at ho;obtain⟨⟨⟨h3,h4⟩,h5⟩,h6⟩:=ho;obtain⟨h1,h2⟩:=Pp hr;exact AD4 hf _ _ k m hx h2 (tU h3) h1 h4 (Bn h5) h6
def Nu (o:Oper):TypeId×Operand:=match o.op with
 | .call c=>match c.callee,c.args.toList,c.argTypes.toList with
  | .builtin .len,[x],[t]=>(t,x)
  |_,_,_=>(0,.tmp 0)
 |_=>(0,.tmp 0)
def ABv (o:Oper):Bool:=match o.op with
 | .call c=>match c.callee,c.args.toList,c.argTypes.toList with
  | .builtin .len,[x],[t]=>true
  |_,_,_=>false
 |_=>false
theorem tT (h:ABv o=true):o.op= .call {callee:= .builtin .len,args:= #[(Nu o).2],argTypes:= #[(Nu o).1]}:=by
 unfold ABv at h;unfold Nu;split at h
 ·rename_i c hc;split at h
  ·rename_i x t h1 h2 h3;obtain⟨callee,args,types⟩:=c;simp only at h1 h2 h3;subst h1;obtain rfl:args= #[x]:=by cases args;simp_all
   obtain rfl:types= #[t]:=by cases types;simp_all
   rw [hc]
  ·cases h
 ·cases h
theorem Dr (hf:∀x,(f x).length=sz) (l:List α) (hr:ZP E (Nu o).2 sz=some (AN f l):=by kernel_rfl) (ho:(ABv o&&S6 P (Nu o).1 sz)=true:=by kernel_rfl):Bh P E o=some (.one (.int .i64 (ln l))):=by
 rw [An]at ho;obtain⟨r,q,j,own,e',h3,h4⟩:=Og hr;obtain⟨e,h6,h7,h8⟩:=Km ho.2;exact zC hf l (tT ho.1) h6 h3 h4 h8
theorem AD0 {α':Type} {f':α'->List TV} {sz':Nat} {l':List α'} {n':Int} {x':α'} (hf:∀x,(f x).length=sz) (l:List α) (hf':∀x,(f' x).length=sz') (hx':gi l' n'=some x') (k:Nat) (ho:(ABv o&&S6 P (Nu o).1 sz&&Nat.blt k sz')=true:=by kernel_rfl)
  (hr:E.ref (Nu o).2=some ((J8 E (Nu o).2).1,(J8 E (Nu o).2).2.1,n'.toNat*sz'+k):=by kernel_rfl) (hp:(E.root (J8 E (Nu o).2).1).bind (fun cs=>BQ cs (J8 E (Nu o).2).2.1)=some (AN f' l'):=by kernel_rfl)
  {own:Bool} {e':Nat} (hc:(f' x')[k]?=some (.sl own e' sz (AN f l)):=by rfl):Bh P E o=some (.one (.int .i64 (ln l))):=by
 simp only [An]at ho;obtain⟨e,h6,h7,h8⟩:=Km ho.1.2;have a:E.place (J8 E (Nu o).2).1 (J8 E (Nu o).2).2.1 (n'.toNat*sz'+k)=some (.sl own e' sz (AN f l)):=by
  obtain⟨cs,h1,h2⟩:=Aq.1 hp;simp only [St.place,h1,Aa,h2];rw [MI hf' hx' (by simpa [Bv]using ho.2),hc]
 exact zC hf l (tT ho.1.1) h6 hr a h8
def Tq (P:Program) (E:St) (t:TypeId) (x:Operand):Option ByteArray:=match E.cell1 P t x with
 |some (.str s)=>some s
 |_=>none
theorem JB {t:TypeId} {x:Operand} {s:ByteArray} (h:Tq P E t x=some s):E.cell1 P t x=some (.str s):=by
 unfold Tq at h;split at h
 ·rename_i u hu
  injection h with h
  rw [hu,h]
 ·cases h
def aL (P:Program) (t:TypeId):Bool:=match P.underlying t with
 |some .string=>true
 |_=>false
theorem RP {t:TypeId} (h:aL P t=true):P.underlying t=some .string:=by
 unfold aL at h;split at h
 ·assumption
 ·cases h
def ABY (P:Program) (E:St) (o:Oper):Option (ByteArray×Int):=match o.op with
 | .index t a i=>match aL P t,Tq P E t a,Qy P E i with
  |true,some s,some n=>some (s,n)
  |_,_,_=>none
 |_=>none
theorem iP {s:ByteArray} {n b:Int} (h:sx s n=some b) (hc:ABY P E o=some (s,n):=by kernel_rfl):Bh P E o=some (.one (.int .u8 b)):=by
 unfold ABY at hc;split at hc
 ·rename_i t a i ho;split at hc
  ·rename_i s' n' h1 h2 h3
   injection hc with hc
   injection hc with c d
   subst c d;obtain⟨k,h3⟩:=Hr h3;exact AD3 h ho (RP h1) (JB h2) h3
  ·cases hc
 ·cases hc
def aN (P:Program) (E:St) (d:Int):Option Operand->Option Int
 |none=>some d
 |some x=>Qy P E x
def xY (P:Program) (E:St) (o:Oper):Option (ByteArray×Int×Int):=match o.op with
 | .slice t a lo hi none=>match aL P t,Tq P E t a with
  |true,some s=>match aN P E 0 lo,aN P E (s.size:Nat) hi with
   |some l,some h=>some (s,l,h)
   |_,_=>none
  |_,_=>none
 |_=>none
theorem O1 {d n:Int} {x:Option Operand} (h:aN P E d x=some n):∃k,(match x with|some o=>E.cell1 P 0 o|none=>some (.int .i64 d))=some (.int k n):=by
 cases x with
 |none=>
  simp only [aN]at h
  injection h with h
  exact⟨.i64,by rw [h]⟩
 |some x=>exact Hr h
theorem Pr {s u:ByteArray} {l h:Int} (hx:sub s l h=some u) (hc:xY P E o=some (s,l,h):=by kernel_rfl):Bh P E o=some (.one (.str u)):=by
 unfold xY at hc;split at hc
 ·rename_i t a lo hi ho;split at hc
  ·rename_i s' h1 h2;split at hc
   ·rename_i l' h' h3 h4
    injection hc with hc
    injection hc with c b
    injection b with b d
    subst c b d;obtain⟨k1,h3⟩:=O1 h3;obtain⟨k2,h4⟩:=O1 h4;exact ADp hx ho (RP h1) (JB h2) h3 h4
   ·cases hc
  ·cases hc
 ·cases hc
def AAu (P:Program) (E:St) (o:Oper):Option (ByteArray×ByteArray):=match o.op with
 | .binOp .add t x y _=>match Tq P E t x,Tq P E t y with
  |some a,some b=>some (a,b)
  |_,_=>none
 |_=>none
theorem OL {a b u:ByteArray} (hx:Tf a b=some u) (hc:AAu P E o=some (a,b):=by kernel_rfl):Bh P E o=some (.one (.str u)):=by
 unfold AAu at hc;split at hc
 ·rename_i t x y t' ho;split at hc
  ·rename_i a' b' h1 h2
   injection hc with hc
   injection hc with c d
   subst c d;exact ADt hx ho (JB h1) (JB h2)
  ·cases hc
 ·cases hc
def OJ (o:Oper):TypeId×TypeId×Operand:=match o.op with
 | .convert s d x=>(s,d,x)
 |_=>(0,0,.tmp 0)
def ADB (P:Program) (o:Oper):Bool:=match o.op with
 | .convert s d x=>(match P.underlying s,P.underlying d with
  |some (.slice e),some .string=>(match P.underlying e with
   |some (.int .u8)=>true
   |_=>false)
  |_,_=>false)
 |_=>false
theorem pcv {f:Int->List TV} (hf:∀n,f n=[.int .u8 n]) (l:List Int) (hr:ZP E (OJ o).2.2 1=some (AN f l):=by kernel_rfl) (ho:ADB P o=true:=by kernel_rfl):Bh P E o=some (.one (.str (GS l))):=by
 obtain⟨r,q,j,own,e',h3,h4⟩:=Og hr;unfold ADB at ho;split at ho
 ·rename_i s d x a;split at ho
  ·rename_i e hs hd;split at ho
   ·rename_i he;simp only [OJ,a]at h3;exact AD7 hf l a hs hd he h3 h4
   ·cases ho
  ·cases ho
 ·cases ho
def yF (P:Program) (E:St) (o:Oper) (k:IntKind):Option (Int×Int):=match o.op with
 | .binOp .shl t x y _=>match E.cell1 P t x,E.cell1 P t y with
  |some (.int k' a),some (.int _ b)=>bif decide (k'=k)then some (a,b)else none
  |_,_=>none
 |_=>none
theorem ADZ {k:IntKind} {a b v:Int} (hx:shl k a b=some v) (hc:yF P E o k=some (a,b):=by kernel_rfl):Bh P E o=some (.one (.int k v)):=by
 unfold yF at hc;split at hc
 ·rename_i t x y t' ho;split at hc
  ·rename_i k' a' k2 b' h1 h2
   cases hk:decide (k'=k)with
   |false=>rw [hk]at hc;cases hc
   |true=>
    rw [hk]at hc;simp only [Af]at hc
    injection hc with hc
    injection hc with hc1 hc2
    have:=IT hk;subst hc1 hc2 this;exact ADq hx ho h1 h2
  ·cases hc
 ·cases hc
def N6 (o:Oper):TypeId×Operand×Option Operand×Option Operand:=match o.op with
 | .slice t x lo hi none=>(t,x,lo,hi)
 |_=>(0,.tmp 0,none,none)
def ABy (o:Oper):Bool:=match o.op with
 | .slice t x lo hi none=>true
 |_=>false
theorem tV (h:ABy o=true):o.op= .slice (N6 o).1 (N6 o).2.1 (N6 o).2.2.1 (N6 o).2.2.2 none:=by
 unfold ABy at h;unfold N6;split at h
 ·rename_i h1;simp only [h1]
 ·cases h
def tB (E:St) (x:Operand) (sz:Nat):Option (Nat×List TV):=match E.ref x with
 |some (r,q,j)=>match E.place r q j with
  |some (.sl false e s cells)=>bif Nat.beq s sz then some (e,cells)else none
  |_=>none
 |none=>none
theorem W5 {x:Operand} {cells:List TV} {e:Nat} (h:tB E x sz=some (e,cells)):∃r q j,E.ref x=some (r,q,j)/\E.place r q j=some (.sl false e sz cells):=by
 unfold tB at h;split at h
 ·rename_i r q j hr;split at h
  ·rename_i e' s cells' hp
   cases hs:Nat.beq s sz with
   |false=>rw [hs]at h;cases h
   |true=>
    rw [hs]at h;simp only [Af]at h
    injection h with h
    injection h with h1 h2
    have:=Bn hs;subst h1 h2 this;exact⟨r,q,j,hr,hp⟩
  ·cases h
 ·cases h
theorem pdr (hf:∀x,(f x).length=sz) {v:List α} {a b:Int} (e:Nat) (hx:dr l a b=some v) (hr:tB E (N6 o).2.1 sz=some (e,AN f l):=by kernel_rfl) (ha:aN P E 0 (N6 o).2.2.1=some a:=by kernel_rfl) (hb:((N6 o).2.2.2.bind (Qy P E))=some b:=by kernel_rfl)
  (ho:(ABy o&&S6 P (N6 o).1 sz)=true:=by kernel_rfl):Bh P E o=some (.one (.sl false e sz (AN f v))):=by
 rw [An]at ho;obtain⟨r,q,j,h1,h2⟩:=W5 hr;obtain⟨e1,h6,h7,h8⟩:=Km ho.2;obtain⟨k1,h3⟩:=O1 ha;obtain⟨oh,h4,h5⟩:=Aq.1 hb;obtain⟨k2,h5⟩:=Hr h5;have:=tV ho.1;rw [h4]at this;exact AD6 hf hx this h6 h1 h2 h3 h5 h7 h8
theorem AD1 (hf:∀x,(f x).length=sz) {v:List α} {a:Int} (e:Nat) (hx:dr l a (ln l)=some v) (hr:tB E (N6 o).2.1 sz=some (e,AN f l):=by kernel_rfl) (ha:aN P E 0 (N6 o).2.2.1=some a:=by kernel_rfl)
  (ho:(ABy o&&S6 P (N6 o).1 sz&&(N6 o).2.2.2.isNone)=true:=by kernel_rfl):Bh P E o=some (.one (.sl false e sz (AN f v))):=by
 simp only [An]at ho;obtain⟨r,q,j,h1,h2⟩:=W5 hr;obtain⟨e1,h6,h7,h8⟩:=Km ho.1.2;obtain⟨k1,h3⟩:=O1 ha;have:=tV ho.1.1;rw [Option.isNone_iff_eq_none.1 ho.2]at this;exact ADs hf hx this h6 h1 h2 h3 h7 h8
def ADg (P:Program) (E:St) (o:Oper) (m:Nat):Bool:=match P.underlying (EZ o).1 with
 |some (.array len e)=>vR o&&Nat.beq (P.cellsOf e) 1&&Nat.blt m len&&(match E.ptr? (EZ o).2.1 with
  |some (r,q,j)=>(E.place r q (j+m)).isSome
  |none=>false)
 |_=>false
def ABV (E:St) (o:Oper) (m:Nat):SV:= .one (.ptr (G5 E (EZ o).2.1).1 (E.stamp (G5 E (EZ o).2.1).1 (G5 E (EZ o).2.1).2.1) (G5 E (EZ o).2.1).2.1 ((G5 E (EZ o).2.1).2.2+m))
theorem pxa (m:Nat) (hn:n=(m:Int)) (hi:Qy P E (EZ o).2.2=some n:=by kernel_rfl) (ho:ADg P E o m=true:=by kernel_rfl):Bh P E o=some (ABV E o m):=by
 unfold ADg at ho;split at ho
 ·rename_i len e ht;simp only [An]at ho;obtain⟨⟨⟨h1,h2⟩,h3⟩,h4⟩:=ho;obtain⟨k,hi⟩:=Hr hi;split at h4
  ·rename_i r q j hp;have:=AD2 r q j hn (fL h1) ht hi hp (Bn h2) h3 h4;rw [this];simp only [ABV,G5,hp,Bb]
  ·cases h4
 ·cases ho
end
end Go.TI
namespace Go.TI
open Go Go.RowKit
section
variable {P:Program} {N:Nat} {E:St} {o:Oper} {α:Type} {f:α->List TV} {sz:Nat} {l:List α} {n:Int} {x:α}
def Em (o:Oper):TypeId×TypeId×Operand×Operand:=match o.op with
 | .call c=>match c.callee,c.args.toList,c.argTypes.toList with
  | .builtin .append,[s,x],[t,t']=>(t,t',s,x)
  |_,_,_=>(0,0,.tmp 0,.tmp 0)
 |_=>(0,0,.tmp 0,.tmp 0)
def AAa (o:Oper):Bool:=match o.op with
 | .call c=>match c.callee,c.args.toList,c.argTypes.toList with
  | .builtin .append,[s,x],[t,t']=>true
  |_,_,_=>false
 |_=>false
theorem fM (h:AAa o=true):o.op= .call {callee:= .builtin .append,args:= #[(Em o).2.2.1,(Em o).2.2.2],argTypes:= #[(Em o).1,(Em o).2.1]}:=by
 unfold AAa at h;unfold Em;split at h
 ·rename_i c hc;split at h
  ·rename_i s x t t' h1 h2 h3;obtain⟨callee,args,types⟩:=c;simp only at h1 h2 h3;subst h1;obtain rfl:args= #[s,x]:=by cases args;simp_all
   obtain rfl:types= #[t,t']:=by cases types;simp_all
   rw [hc]
  ·cases h
 ·cases h
def ABO (P:Program) (N:Nat) (o:Oper) (sz by_:Nat):Bool:=AAa o&&Nat.beq (Em o).1 (Em o).2.1&&S6 P (Em o).1 sz&&(Ij P (UF P (Em o).1)).isSome&&Nat.beq (P.bytesOf (UF P (Em o).1)) by_&&Nat.blt 0 by_&&G6 N o
def Q7 (P:Program) (E:St) (o:Oper) (sz:Nat):Option (List TV×St):=match E.cell1 P (Em o).1 (Em o).2.2.1 with
 |some sv=>match CX E sv with
  |some (.sl true e s cells,E1)=>bif Nat.beq e (UF P (Em o).1)&&Nat.beq s sz then some (cells,E1)else none
  |_=>none
 |none=>none
def apE (P:Program) (E:St) (o:Oper) (sz:Nat):St:=((Q7 P E o sz).map Prod.snd).getD E
def apV (P:Program) (o:Oper) (sz:Nat) (row:List TV):SV:= .one (.sl true (UF P (Em o).1) sz row)
def AAH (P:Program) (E1:St) (o:Oper) (sz:Nat):Option (Nat×List TV×St):=match E1.ref (Em o).2.2.2 with
 |some (r,q,j)=>match E1.place r q j with
  |some (.sl _ _ s cells)=>bif Nat.beq s sz then(match Eu E1 (Qq E1 r (q++ [j]) 0 cells)with
   |some (news,E2)=>some (cells.length,news,E2)
   |none=>none)else none
  |_=>none
 |none=>none
theorem Va {t:TypeId} {e:TypeId} (h:P.underlying t=some (.slice e)):UF P t=e:=by unfold UF;rw [h]
theorem ADz (hf:∀x,(f x).length=sz) (l m:List α) {by_:Nat} {u:List α} (h:ap by_ l m=some u) {E1 E2:St} (hd:Q7 P E o sz=some (AN f l,E1)) {r:Root} {q:List Nat} {j:Nat} {own:Bool} {e2:Nat} {cells2:List TV} (hr:E1.ref (Em o).2.2.2=some (r,q,j)) (hp:E1.place r q j=some (.sl own e2 sz cells2))
  (hn:Eu E1 (Qq E1 r (q++ [j]) 0 cells2)=some (AN f m,E2)) (hl:cells2.length=m.length*sz) (ho:ABO P N o sz by_=true):BX P N false E o=some (E2.put o.dst (apV P o sz (AN f u))):=by
 obtain⟨rfl,g⟩:=uF h;simp only [ABO,An]at ho;obtain⟨⟨⟨⟨⟨⟨a1,a2⟩,a3⟩,a4⟩,a5⟩,a6⟩,a7⟩:=ho;obtain⟨d,a8,_,a9⟩:=EO a7;obtain⟨e,b1,b2,b3⟩:=Km a3;have a:=Va b1;rw [a]at a4 a5;have h0':0<sz:=by simpa [Bv]using b3
 have hb0':0<by_:=by simpa [Bv]using a6
 have hb:=Bn a5;have i:=Bn a2;unfold Q7 at hd;rw [a]at hd;split at hd
 ·rename_i sv hs;split at hd
  ·rename_i e1 s cells E1' h1
   cases hc:(Nat.beq e1 e&&Nat.beq s sz)with
   |false=>rw [hc]at hd;cases hd
   |true=>
    rw [hc]at hd;simp only [Af]at hd
    injection hd with hd
    injection hd with hd1 hd2
    rw [An]at hc;have c1:=Bn hc.1;have c2:=Bn hc.2;subst hd1 hd2 c1 c2;have b:(AN f l).length/s=l.length:=by rw [E5 hf];exact Dx _ h0'
    have c:cells2.length/s=m.length:=by rw [hl];exact Dx _ h0'
    have k:l.length+m.length<=(l.length+m.length)*by_:=Nat.le_mul_of_pos_right _ hb0';unfold BX;rw [a8];simp only [Ay a9,fM a1,Ay i,JZ,b1,hs,h1,hr,hp,hn];rw [Ay ⟨trivial,b2.symm,trivial,h0',a4,by rw [b,c];omega,by rw [b,c,hb];exact g⟩,MJ,apV,a]
  ·cases hd
 ·cases hd
theorem Rc {row:List TV} (h:(Q7 P E o sz).map Prod.fst=some row):Q7 P E o sz=some (row,apE P E o sz):=by
 unfold apE
 cases hx:Q7 P E o sz with
 |none=>rw [hx]at h;cases h
 |some z=>
  rw [hx]at h;simp only [Bz]at h
  injection h with h
  subst h;rfl
theorem DK (hf:∀x,(f x).length=sz) (hg:∀x,Hp (f x)=true) (l:List α) {m u:List α} {by_:Nat} (h:ap by_ l m=some u) (hd:(Q7 P E o sz).map Prod.fst=some (AN f l):=by kernel_rfl) (hm:ZP (apE P E o sz) (Em o).2.2.2 sz=some (AN f m):=by kernel_rfl) (ho:ABO P N o sz by_=true:=by kernel_rfl):
  BX P N false E o=some ((apE P E o sz).put o.dst (apV P o sz (AN f u))):=by
 obtain⟨r,q,j,own,e,h1,h2⟩:=Og hm;exact ADz hf l m h (Rc hd) h1 h2 (by rw [QF _ (Mb hg m),KJ (Mb hg m)]) (E5 hf m) ho
theorem rM (hf:∀x,(f x).length=sz) (l m:List α) {u:List α} {by_:Nat} (h:ap by_ l m=some u) (hd:(Q7 P E o sz).map Prod.fst=some (AN f l):=by kernel_rfl) (hm:(AAH P (apE P E o sz) o sz).map (fun z=>(z.1,z.2.1))=some (m.length*sz,AN f m):=by kernel_rfl) (ho:ABO P N o sz by_=true:=by kernel_rfl):
  BX P N false E o=some ((((AAH P (apE P E o sz) o sz).map (fun z=>z.2.2)).getD E).put o.dst (apV P o sz (AN f u))):=by
 have hd':=Rc hd;generalize hE:apE P E o sz=E1 at hm hd'⊢;unfold AAH at hm⊢
 cases hr:E1.ref (Em o).2.2.2 with
 |none=>simp only [hr]at hm;cases hm
 |some z=>
  obtain⟨r,q,j⟩:=z;simp only [hr]at hm⊢
  cases hp:E1.place r q j with
  |none=>simp only [hp]at hm;cases hm
  |some t=>
   simp only [hp]at hm⊢
   cases t with
   |sl own e2 s cells=>
    simp only at hm⊢
    cases hb:Nat.beq s sz with
    |false=>rw [hb]at hm;cases hm
    |true=>
     rw [hb]at hm;simp only [Af]at hm⊢;have:=Bn hb;subst this
     cases hn:Eu E1 (Qq E1 r (q++ [j]) 0 cells)with
     |none=>simp only [hn]at hm;cases hm
     |some y=>
      obtain⟨news,E2⟩:=y;simp only [hn,Bz]at hm⊢
      injection hm with hm
      injection hm with hm1 hm2
      subst hm2;exact ADz hf l m h hd' hr hp hn hm1 ho
   |_=>simp only at hm;cases hm
def ACj (P:Program) (N:Nat) (o:Oper):Bool:=AAa o&&S6 P (Em o).1 1&&aL P (Em o).2.1&&!Nat.beq (Em o).1 (Em o).2.1&&ABq P (UF P (Em o).1)&&G6 N o
theorem rL {f:Int->List TV} (hf:∀n,f n=[.int .u8 n]) (l:List Int) {b:ByteArray} {u:List Int} (h:aps l b=some u) (hd:(Q7 P E o 1).map Prod.fst=some (AN f l):=by kernel_rfl) (hx:Tq P E (Em o).2.1 (Em o).2.2.2=some b:=by kernel_rfl) (ho:ACj P N o=true:=by kernel_rfl):
  BX P N false E o=some ((apE P E o 1).put o.dst (apV P o 1 (AN f u))):=by
 have hd':=Rc hd;simp only [ACj,An,Dm]at ho;obtain⟨⟨⟨⟨⟨a1,a2⟩,a3⟩,a4⟩,a5⟩,a6⟩:=ho;obtain⟨d,a8,_,a9⟩:=EO a6;obtain⟨e,b1,b2,b3⟩:=Km a2;have a:=Va b1;have c:=RP a3;have g:=JB hx;have hne':(Em o).1≠(Em o).2.1:=by intro e;rw [e]at a4;simp at a4
 rw [a]at a5;unfold aps at h;split at h
 case isFalse=>cases h
 rename_i hb
 injection h with h
 subst h;have hl:(AN f l).length=l.length:=by rw [E5 (sz:=1) (fun n=>by rw [hf];rfl),Rf]
 generalize hE:apE P E o 1=E1 at hd'⊢;unfold Q7 at hd';rw [a]at hd';split at hd'
 ·rename_i sv hs;split at hd'
  ·rename_i e1 s cells E1' h1
   cases hc:(Nat.beq e1 e&&Nat.beq s 1)with
   |false=>rw [hc]at hd';cases hd'
   |true=>
    rw [hc]at hd';simp only [Af]at hd'
    injection hd' with hd'
    injection hd' with hd1 hd2
    rw [An]at hc;have c1:=Bn hc.1;have c2:=Bn hc.2;subst hd1 hd2 c1 c2;unfold BX;rw [a8];simp only [Ay a9,fM a1,A0 hne',O3,b1,c,hs,g,h1];rw [Ay ⟨trivial,trivial,a5,by rw [hl];exact hb⟩,Tp hf,MJ,apV,a]
  ·cases hd'
 ·cases hd'
def Qx (o:Oper):TypeId×Operand×Operand:=match o.op with
 | .makeSlice t l c=>(t,l,c)
 |_=>(0,.tmp 0,.tmp 0)
def ACH (o:Oper):Bool:=match o.op with
 | .makeSlice .. =>true
 |_=>false
theorem ABt (h:ACH o=true):o.op= .makeSlice (Qx o).1 (Qx o).2.1 (Qx o).2.2:=by
 unfold ACH at h;unfold Qx;split at h
 ·rename_i h1;simp only [h1]
 ·cases h
def ADv (P:Program) (N:Nat) (o:Oper) (sz by_:Nat):Bool:=ACH o&&S6 P (Qx o).1 sz&&Nat.beq (P.bytesOf (UF P (Qx o).1)) by_&&G6 N o
theorem fmk (hf:∀x,(f x).length=sz) (z:α) {by_:Nat} {u:List α} (h:mk by_ z n=some u) (hl:Qy P E (Qx o).2.1=some n:=by kernel_rfl) (hc:Qy P E (Qx o).2.2=some n:=by kernel_rfl) (hz:Ij P (UF P (Qx o).1)=some (f z):=by kernel_rfl) (ho:ADv P N o sz by_=true:=by kernel_rfl):
  BX P N false E o=some (E.put o.dst (.one (.sl true (UF P (Qx o).1) sz (AN f u)))):=by
 simp only [ADv,An]at ho;obtain⟨⟨⟨a1,a2⟩,a3⟩,a4⟩:=ho;obtain⟨d,a5,a6,_⟩:=EO a4;obtain⟨e,b1,b2,b3⟩:=Km a2;have a:=Va b1;rw [a]at hz a3⊢;obtain⟨k1,hl⟩:=Hr hl;obtain⟨k2,hc⟩:=Hr hc;rw [a5];exact ADY z h (ABt a1) a5 a6 b1 hl hc hz rfl (Bn a3) b2
def ACG (o:Oper):Bool:=match o.op with
 | .convert .. =>true
 |_=>false
theorem ABs (h:ACG o=true):o.op= .convert (OJ o).1 (OJ o).2.1 (OJ o).2.2:=by
 unfold ACG at h;unfold OJ;split at h
 ·rename_i h1;simp only [h1]
 ·cases h
def ADi (P:Program) (N:Nat) (o:Oper):Bool:=ACG o&&aL P (OJ o).1&&S6 P (OJ o).2.1 1&&mH P (UF P (OJ o).2.1)&&G6 N o
theorem fsb {f:Int->List TV} (hf:∀n,f n=[.int .u8 n]) {b:ByteArray} (hx:Tq P E (OJ o).1 (OJ o).2.2=some b) (ho:ADi P N o=true:=by kernel_rfl):BX P N false E o=some (E.put o.dst (.one (.sl false (UF P (OJ o).2.1) 1 (AN f (oQ b))))):=by
 simp only [ADi,An]at ho;obtain⟨⟨⟨⟨a1,a2⟩,a3⟩,a4⟩,a5⟩:=ho;obtain⟨d,a6,a7,_⟩:=EO a5;obtain⟨e,b1,b2,b3⟩:=Km a3;have a:=Va b1;rw [a]at a4⊢;rw [a6];exact ADX hf (ABs a1) a6 a7 (RP a2) b1 (JB hx) a4
def Pa (o:Oper):TypeId×Operand×Operand:=match o.op with
 | .store t a x=>(t,a,x)
 |_=>(0,.tmp 0,.tmp 0)
def ACF (o:Oper):Bool:=match o.op with
 | .store .. =>o.dst.isNone
 |_=>false
theorem ABr (h:ACF o=true):o.op= .store (Pa o).1 (Pa o).2.1 (Pa o).2.2/\o.dst=none:=by
 unfold ACF at h;unfold Pa;split at h
 ·rename_i h1;simp only [h1];exact⟨trivial,Option.isNone_iff_eq_none.1 h⟩
 ·cases h
def S5 (P:Program) (E:St) (o:Oper):Option (List TV×St):=match E.val P (Pa o).1 (Pa o).2.2 with
 |some s=>KI E s
 |none=>none
def yB (P:Program) (E:St) (o:Oper):List TV:=((S5 P E o).map Prod.fst).getD []
def oJ (P:Program) (E:St) (o:Oper):St:=((S5 P E o).map Prod.snd).getD E
def stP (P:Program) (E:St) (o:Oper):Root×List Nat×Nat:=G5 (oJ P E o) (Pa o).2.1
def uO (P:Program) (E:St) (o:Oper) (k sz:Nat):Bool:=ACF o&&(S5 P E o).isSome&&Nat.beq (yB P E o).length (P.cellsOf (Pa o).1)&&Nat.blt 0 (yB P E o).length&&Nat.ble (k+(yB P E o).length) sz
theorem ADx (hf:∀x,(f x).length=sz) (hx:gi l n=some x) (k:Nat) {r:Root} {c:Nat} {q:List Nat} {cs cs':List TV} (ho:uO P E o k sz=true) (hp:(oJ P E o).ptr? (Pa o).2.1=some (r,c::q,n.toNat*sz+k)) (hr:(oJ P E o).root r=some cs)
  (A:At cs (c::q) (AN f l) (fun row=>setRow row (n.toNat*sz+k) (yB P E o)) cs'):BX P N false E o=some (((oJ P E o).setRoot r cs').bump r):=by
 simp only [uO,An]at ho;obtain⟨⟨⟨⟨a1,a2⟩,a3⟩,a4⟩,a5⟩:=ho;obtain⟨b1,b2⟩:=ABr a1;have ht:S5 P E o=some (yB P E o,oJ P E o):=by
  unfold yB oJ
  cases hh:S5 P E o with
  |none=>rw [hh]at a2;cases a2
  |some z=>rfl
 generalize hX:yB P E o=xs at*;generalize hE:oJ P E o=E1 at*;unfold S5 at ht;split at ht
 ·rename_i s hs;have h0':0<xs.length:=by simpa [Bv]using a4
  simp only [BX,b2,b1,Sj,hs,ht,hp,hr,A.c];rw [Ay ⟨A.o,Bn a3,h0',ACL hf hx a5⟩,A0 (by simp),A.u]
 ·cases ht
def ABb (E:St) (r:Root) (c:Nat) (row:List TV):List TV:=match E.root r with
 |some cs=>match cs[c]? with
  |some (.sl o e s _)=>cs.set c (.sl o e s row)
  |_=>cs
 |none=>[]
def Pu (E:St) (r:Root) (c:Nat):Option (List TV):=match E.root r with
 |some cs=>match cs[c]? with
  |some (.sl true e s row)=>some row
  |_=>none
 |none=>none
theorem Pt {r:Root} {c:Nat} {row:List TV} (h:Pu E r c=some row):∃cs e s,E.root r=some cs/\cs[c]?=some (.sl true e s row)/\∀row',ABb E r c row'=cs.set c (.sl true e s row'):=by
 unfold Pu at h;unfold ABb;split at h
 ·rename_i cs hr;split at h
  ·rename_i e s row' hc
   injection h with h
   subst h;exact⟨cs,e,s,hr,hc,fun row''=>by simp only [hc]⟩
  ·cases h
 ·cases h
theorem N2 (hf:∀x,(f x).length=sz) (hx:gi l n=some x) (k c:Nat) (z:α) (ho:uO P E o k sz=true:=by kernel_rfl) (hp:(oJ P E o).ptr? (Pa o).2.1=some ((stP P E o).1,[c],n.toNat*sz+k):=by kernel_rfl) (hr:Pu (oJ P E o) (stP P E o).1 c=some (AN f l):=by kernel_rfl)
  (hz:setRow (f x) k (yB P E o)=f z:=by kernel_rfl):BX P N false E o=some (((oJ P E o).setRoot (stP P E o).1 (ABb (oJ P E o) (stP P E o).1 c (AN f (si l n z)))).bump (stP P E o).1):=by
 obtain⟨cs,e,s,h1,h2,h3⟩:=Pt hr;refine ADx hf hx k ho hp h1 ?_;rw [h3];have hk:Nat.ble (k+(yB P E o).length) sz=true:=by
  simp only [uO,An]at ho;exact ho.2
 exact At.one (S7 hf hx hk hz) h2 rfl
theorem AEc {α':Type} {f':α'->List TV} {sz':Nat} {l':List α'} {n':Int} {x':α'} (hf:∀x,(f x).length=sz) (hx:gi l n=some x) (k c:Nat) (z:α) (hf':∀x,(f' x).length=sz') (hx':gi l' n'=some x') (k':Nat) (z':α') (ho:(uO P E o k sz&&Nat.blt k' sz')=true:=by kernel_rfl)
  (hp:(oJ P E o).ptr? (Pa o).2.1=some ((stP P E o).1,[c,n'.toNat*sz'+k'],n.toNat*sz+k):=by kernel_rfl) (hr:Pu (oJ P E o) (stP P E o).1 c=some (AN f' l'):=by kernel_rfl)
  (hz:setRow (f x) k (yB P E o)=f z:=by kernel_rfl) {e s:Nat} (hc:(f' x')[k']?=some (.sl true e s (AN f l)):=by rfl) (hc':(f' x').set k' (.sl true e s (AN f (si l n z)))=f' z':=by rfl):BX P N false E o=some (((oJ P E o).setRoot (stP P E o).1 (ABb (oJ P E o) (stP P E o).1 c (AN f' (si l' n' z')))).bump (stP P E o).1):=by
 obtain⟨cs,e1,s1,h1,h2,h3⟩:=Pt hr;rw [An]at ho;refine ADx hf hx k ho.1 hp h1 ?_;rw [h3];have hk:Nat.ble (k+(yB P E o).length) sz=true:=by
  have:=ho.1;simp only [uO,An]at this;exact this.2
 exact ADG hf' hx' (At.one (S7 hf hx hk hz) hc hc') ho.2 h2 rfl
end
theorem KB.o {P:Program} {N:Nat} {E:St} {ops:Array Oper} {i:Nat} {Q:Exit->St->Prop} {ts dn:List Nat} (mv:Bool) (h:KW P N ops ts (i::dn) ((BX P N mv E (oA ops i)).getD E) Q) (hs:(BX P N mv E (oA ops i)).isSome=true:=by kernel_rfl) (hk:(UC P ops E i&&(kp (oA ops i)||ts.contains i))=true:=by kernel_rfl):KB P N ops ts dn i E Q:=Ms (getD_some hs) h hk
def bits:Nat->List (TypeId×Operand)->List (Bool×TypeId×Operand)
 |_,[]=>[]
 |m,(t,x)::l=>(Nat.beq (m %2) 1,t,x)::bits (m/2) l
def m9 (o:Oper):Nat:=match o.op with
 | .call c=>match c.callee with
  | .value (.func f)=>f
  |_=>0
 |_=>0
def Gb (o:Oper):List (TypeId×Operand):=match o.op with
 | .call c=>c.argTypes.toList.zip c.args.toList
 |_=>[]
def rQ (P:Program) (N:Nat) (o:Oper):Bool:=(match o.op with
 | .call c=>match c.callee with
  | .value (.func f)=>Nat.beq c.argTypes.size c.args.size&&(match P.funcs[f]? with
   | some fn => !(fn.name == "runtime.NumGoroutine") && !fn.body.isNone
   |none=>false)
  |_=>false
 |_=>false)&&(match o.dst with
 |some d=>Nat.blt d N
 |none=>true)
theorem N9:∀{l:List (TypeId×Operand)} {m:Nat},(bits m l).map (fun x=>x.2.2)=l.map Prod.snd
 |[],m=>rfl
 |(t,x)::l,m=>by simp only [bits,BN,N9]
theorem Sl {P:Program} {N:Nat} {o:Oper} (h:rQ P N o=true):∃args tys,o.op= .call {callee:= .value (.func (m9 o)),args:=args,argTypes:=tys}/\gT P (m9 o)/\(∀d,o.dst=some d->d<N)/\(Gb o).map Prod.snd=args.toList:=by
 simp only [rQ,An]at h;obtain⟨h1,h2⟩:=h;have hN:∀d,o.dst=some d->d<N:=by
  intro d hd;rw [hd]at h2;simpa [Bv]using h2
 unfold m9 Gb;split at h1
 ·rename_i c hc;split at h1
  ·rename_i f a;rw [An]at h1;obtain⟨h3,h4⟩:=h1;split at h4
   ·rename_i fn b;simp only [An,Dm]at h4;obtain⟨callee,args,types⟩:=c;simp only at a h3;subst a;have hz:=Bn h3;refine⟨args,types,by simp only [hc],?_,hN,?_⟩
    ·exact⟨fn,b,by intro e;rw [e]at h4;simp at h4,h4.2⟩
    ·exact List.map_snd_zip (by simp [hz])
   ·cases h4
  ·cases h1
 ·cases h1
section
variable (P:Program) (E:St) (o:Oper) (m:Nat)
def mvA:Option (List (Option SV)×St):=Jn P E (bits m (Gb o))
def clE:St:=((mvA P E o m).map Prod.snd).getD E
def shA:Option (List AV×Bool):=match mvA P E o m with
 |some (ss,E1)=>Hb P E1 (bits m (Gb o)) ss
 |none=>none
def uQ:Option (List AV):=(shA P E o m).map Prod.fst
def shB:Bool:=match shA P E o m with
 |some (_,b)=>b
 |none=>false
end
theorem AAo {P:Program} {E:St} {o:Oper} {m:Nat} {as:List AV} {res:SV} (h:uQ P E o m=some as) (hc:shB P E o m=true\/BE res=false):Vc P E o.dst (bits m (Gb o)) as res ((clE P E o m).put o.dst res):=by
 unfold uQ shB shA at*;unfold clE
 cases hm:mvA P E o m with
 |none=>rw [hm]at h;cases h
 |some z=>
  obtain⟨ss,E1⟩:=z;rw [hm]at h hc;simp only at h hc
  cases hs:Hb P E1 (bits m (Gb o)) ss with
  |none=>rw [hs]at h;cases h
  |some y=>
   obtain⟨as',c⟩:=y;rw [hs]at h hc;simp only [Bz]at h hc
   injection h with h
   subst h;exact⟨ss,E1,c,hm,hs,hc,rfl⟩
theorem ca {γ:Type _} {a b:γ} {l l':List γ} (h:a=b) (k:l=l'):a::l=b::l':=by rw [h,k]
theorem cs {e sz:Nat} {a b:List TV} (h:BG a=b):TV.sl false e sz (BG a)= .sl false e sz b:=by rw [h]
theorem co {a b:TV} (h:a=b):AV.sv (.one a)= .sv (.one b):=by rw [h]
theorem iQ {a b:List TV} (h:a=b):AV.sv (.agg a)= .sv (.agg b):=by rw [h]
section
variable {P:Program} {N:Nat} {E:St} {ops:Array Oper} {i:Nat} {Q:Exit->St->Prop} {α β:Type} {r:β} {ts dn:List Nat}
theorem RW.c {x:Option α} {kk:α->Option β} (m:Nat) (h:x.bind kk=some r) {enc:α->SV} {l:List AV} {n:Nat} (a:∀v,x=some v->AW P (m9 (oA ops i)) l (enc v) (List.replicate n .gone)) (hk:∀v,x=some v->kk v=some r->RW P N ops (i+1) ((clE P E (oA ops i) m).put (oA ops i).dst (enc v)) Q)
  (b:uQ P E (oA ops i) m=some l:=by kernel_rfl) (hc:shB P E (oA ops i) m=true\/∀v,BE (enc v)=false:=by exact .inl (by kernel_rfl)) (ho:(UC P ops E i&&rQ P N (oA ops i))=true:=by kernel_rfl):RW P N ops i E Q:=by
 obtain⟨v,hv,h⟩:=Aq.1 h;rw [An]at ho;obtain⟨h1,h2⟩:=Ir ho.1;obtain⟨args,tys,h3,h4,h5,h6⟩:=Sl ho.2;unfold RW;rw [Qi h1];exact A3.call h3 h4 h2 h5 (bits m (Gb (oA ops i))) (by rw [N9,h6]) (a v hv) (AAo b (hc.imp id (fun h=>h v))) (hk v hv h)
theorem KB.c {x:Option α} {kk:α->Option β} (m:Nat) (h:x.bind kk=some r) {enc:α->SV} {l:List AV} {n:Nat} (a:∀v,x=some v->AW P (m9 (oA ops i)) l (enc v) (List.replicate n .gone)) (hk:∀v,x=some v->kk v=some r->KW P N ops ts (i::dn) ((clE P E (oA ops i) m).put (oA ops i).dst (enc v)) Q)
  (b:uQ P E (oA ops i) m=some l:=by kernel_rfl) (hc:shB P E (oA ops i) m=true\/∀v,BE (enc v)=false:=by exact .inl (by kernel_rfl)) (ho:(UC P ops E i&&rQ P N (oA ops i)&&((bits m (Gb (oA ops i))).all (fun x=>!x.1)||ts.contains i))=true:=by kernel_rfl):KB P N ops ts dn i E Q:=by
 obtain⟨v,hv,h⟩:=Aq.1 h;simp only [An]at ho;obtain⟨h1,h2⟩:=Ir ho.1.1;obtain⟨args,tys,h3,h4,h5,h6⟩:=Sl ho.1.2;exact D7.call i (HC h1) h3 h4 h2 h5 (bits m (Gb (oA ops i))) (by rw [N9,h6]) ho.2 (a v hv) (AAo b (hc.imp id (fun h=>h v))) (hk v hv h)
theorem gs {P:Program} {f:FuncId} {x:Option α} {enc:α->SV} {l l':List AV} {n:Nat} (e:l=l') (h:∀v,x=some v->AW P f l' (enc v) (List.replicate n .gone)):∀v,x=some v->AW P f l (enc v) (List.replicate n .gone):=e▸h
def cxR (E:St) (o:Oper):Root:=match Gb o with
 |(_,x)::_=>(G5 E x).1
 |[]=> .hand
def ABI (E:St) (o:Oper):Bool:=match Gb o with
 |(_,x)::_=>(match E.ptr? x with
  |some (r,[],0)=>r.mem
  |_=>false)
 |[]=>false
def cxA (P:Program) (E:St) (o:Oper):Option (List AV×Bool):=Hb P (E.without (cxR E o)) (bits 0 (Gb o).tail) (List.replicate (bits 0 (Gb o).tail).length none)
def ABJ (P:Program) (E:St) (o:Oper):Option (List AV):=(cxA P E o).map Prod.fst
def cxB (P:Program) (E:St) (o:Oper):Bool:=match cxA P E o with
 |some (_,b)=>b
 |none=>false
theorem ACe {o:Oper} (h:ABI E o=true):∃t x l,Gb o=(t,x)::l/\E.ptr? x=some (cxR E o,[],0)/\(cxR E o).mem=true:=by
 unfold ABI at h;unfold cxR;split at h
 ·rename_i t x l hl;split at h
  ·rename_i r hp;refine⟨t,x,l,hl,?_,?_⟩
   ·simp only [G5,hp,Bb]
   ·simpa only [G5,hp,Bb]using h
  ·cases h
 ·cases h
theorem AAq {o:Oper} {as:List AV} {p:Prop} (h:ABJ P E o=some as) (hc:cxB P E o=true\/p):∃c,Hb P (E.without (cxR E o)) (bits 0 (Gb o).tail) (List.replicate (bits 0 (Gb o).tail).length none)=some (as,c)/\(c=true\/p):=by
 unfold ABJ cxB at*
 cases hs:cxA P E o with
 |none=>rw [hs]at h;cases h
 |some y=>
  obtain⟨as',c⟩:=y;rw [hs]at h hc;simp only [Bz]at h hc
  injection h with h
  subst h;exact⟨c,hs,hc⟩
theorem Gp {x:Option α} {kk:α->Option β} (h:x.bind kk=some r) {enc:α->SV} {fin:α->List TV} {cells:List TV} {l:List AV} {n:Nat} (d:∀v,x=some v->AW P (m9 (oA ops i)) (.ext cells::l) (enc v) (.ext (fin v)::List.replicate n .gone)) (b:∀v,(fin v).length=cells.length)
  (hk:∀v,x=some v->kk v=some r->RW P N ops (i+1) (((E.setRoot (cxR E (oA ops i)) (fin v)).bump (cxR E (oA ops i))).put (oA ops i).dst (enc v)) Q)
  (e:ABJ P E (oA ops i)=some l:=by kernel_rfl) (hb:E.boxes (cxR E (oA ops i))=some cells:=by kernel_rfl) (hc:cxB P E (oA ops i)=true\/∀v,BE (enc v)=false/\AT (fin v)=false:=by exact .inl (by kernel_rfl)) (ho:(UC P ops E i&&rQ P N (oA ops i)&&ABI E (oA ops i))=true:=by kernel_rfl):RW P N ops i E Q:=by
 obtain⟨v,hv,h⟩:=Aq.1 h;simp only [An]at ho;obtain⟨h1,h2⟩:=Ir ho.1.1;obtain⟨args,tys,h3,h4,h5,h6⟩:=Sl ho.1.2;obtain⟨t,x0,l0,h7,h8,h9⟩:=ACe ho.2;obtain⟨c,h10,h11⟩:=AAq e hc;unfold RW;rw [Qi h1];intro w0 FA UA w a blk FS US hr hF hU;simp only [wpList,Ct hr h2,Cd];refine .inl (nE hr hF hU h3 h4 h5 (x:=x0) (l:=bits 0 (Gb (oA ops i)).tail) ?_ h9 h8 hb (b v) h10 (h11.imp id (fun h=>h v)) (d v hv) fun w' v' blk' FS' US' k1 k2 k3=>hk v hv h _ _ _ _ _ _ _ _ k1 k2 k3);rw [N9,<-h6,h7];rfl
theorem bC {x:Option α} {kk:α->Option β} (h:x.bind kk=some r) {enc:α->SV} {fin:α->List TV} {cells:List TV} {l:List AV} {n:Nat} (d:∀v,x=some v->AW P (m9 (oA ops i)) (.ext cells::l) (enc v) (.ext (fin v)::List.replicate n .gone)) (b:∀v,(fin v).length=cells.length)
  (hk:∀v,x=some v->kk v=some r->KW P N ops ts (i::dn) (((E.setRoot (cxR E (oA ops i)) (fin v)).bump (cxR E (oA ops i))).put (oA ops i).dst (enc v)) Q)
  (e:ABJ P E (oA ops i)=some l:=by kernel_rfl) (hb:E.boxes (cxR E (oA ops i))=some cells:=by kernel_rfl) (hc:cxB P E (oA ops i)=true\/∀v,BE (enc v)=false/\AT (fin v)=false:=by exact .inl (by kernel_rfl)) (ho:(UC P ops E i&&rQ P N (oA ops i)&&ABI E (oA ops i)&&ts.contains i)=true:=by kernel_rfl):KB P N ops ts dn i E Q:=by
 obtain⟨v,hv,h⟩:=Aq.1 h;simp only [An]at ho;obtain⟨h1,h2⟩:=Ir ho.1.1.1;obtain⟨args,tys,h3,h4,h5,h6⟩:=Sl ho.1.1.2;obtain⟨t,x0,l0,h7,h8,h9⟩:=ACe ho.1.2;obtain⟨c,h10,h11⟩:=AAq e hc;intro w0 FA UA w a blk FS US hr hF hU;unfold wpOp;simp only [HC h1,Ct hr h2,Cd];refine .inl (nE hr hF hU h3 h4 h5 (x:=x0) (l:=bits 0 (Gb (oA ops i)).tail) ?_ h9 h8 hb (b v) h10 (h11.imp id (fun h=>h v)) (d v hv) fun w' v' blk' FS' US' k1 k2 k3=>⟨fun ht=>(by rw [ho.2]at ht;cases ht),_,_,_,_,hk v hv h,k1,k2,k3⟩);rw [N9,<-h6,h7];rfl
end
section
variable {P:Program} {N:Nat} {E:St} {Q:Exit->St->Prop} {ls ls2:List Nat} {bs bs2:List Root} {S V W:Type} {id:Nat}
theorem EC {E':St} (hb:bs.all (fun r=>r.mem&&(E.boxes r).isSome)=true:=by kernel_rfl) (hn:Ff E ls bs=E':=by kernel_rfl):nt ls bs E E':=⟨hb,hn⟩
theorem wc {β:Type} {r:β} {c:Operand} {x y:Code} {tx ty:Option β} {b:Bool} (h:(bif b then tx else ty)=some r) (ht:tx=some r->Wp P N x E Q) (hf:ty=some r->Wp P N y E Q) (hc:E.cell1 P 0 c=some (.bool b):=by kernel_rfl):Wp P N (.cond c x y) E Q:=Wp.c h ht hf hc
theorem wt {c:Operand} {x y:Code} (ht:Wp P N x E Q) (hc:E.cell1 P 0 c=some (.bool true):=by kernel_rfl):Wp P N (.cond c x y) E Q:=ADC ht hc
theorem wf {c:Operand} {x y:Code} (hf:Wp P N y E Q) (hc:E.cell1 P 0 c=some (.bool false):=by kernel_rfl):Wp P N (.cond c x y) E Q:=ACl hf hc
theorem rsz {rs:List ResultVar} {res:SV} (h:(Ew P E rs).map (fun z=>EU z.1)=some res):∃ss E',Ew P E rs=some (ss,E')/\EU ss=res:=by
 obtain⟨z,h1,h2⟩:=AX.1 h;exact⟨z.1,z.2,h1,h2⟩
theorem rsx {rs:List ResultVar} {res:SV} {cells:List TV} {rt:Root} (h:(Ew P E rs).map (fun z=>(EU z.1,z.2.boxes rt))=some (res,some cells)):∃ss E',Ew P E rs=some (ss,E')/\EU ss=res/\E'.boxes rt=some cells:=by
 obtain⟨z,h1,h2⟩:=AX.1 h
 injection h2 with h3 h4
 exact⟨z.1,z.2,h1,h3,h4⟩
end
theorem gkx {P:Program} {f:FuncId} {fn:Func} {c:Code} {cells cells':List TV} {as:List AV} {res:SV} {N:Nat} (hf:P.funcs[f]?=some fn) (hb:fn.body=some c) (hN:fn.ntmps=N)
 (h:Wp P N c (DT (.ext cells::as)) fun e E=>(e= .normal\/e= .ret)/\∃ss E',Ew P E fn.results.toList=some (ss,E')/\EU ss=res/\E'.boxes (.ext 0)=some cells') (a:cells'.isEmpty=false:=by rfl):AW P f (.ext cells::as) res (.ext cells'::List.replicate as.length .gone):=wB hf hb (by rw [hN];exact h) a
theorem gk {P:Program} {f:FuncId} {fn:Func} {c:Code} {as:List AV} {res:SV} {N:Nat} (hf:P.funcs[f]?=some fn) (hb:fn.body=some c) (hN:fn.ntmps=N)
 (h:Wp P N c (DT as) fun e E=>(e= .normal\/e= .ret)/\∃ss E',Ew P E fn.results.toList=some (ss,E')/\EU ss=res):AW P f as res (List.replicate as.length .gone):=WW hf hb (by rw [hN];exact h)
end Go.TI
namespace Go.TI
open Go Go.RowKit
theorem oN:∀t:TV,(KX t).isSl=t.isSl:=by intro t;cases t<;>rfl
theorem Jb:∀(cs:List TV) (j:Nat),(BG cs)[j]?=cs[j]?.map KX
 |[],j=>by simp [BG]
 |t::ts,0=>by simp [BG]
 |t::ts,j+1=>by simpa [BG]using Jb ts j
theorem TP:∀(q:List Nat) (cs:List TV),BQ (BG cs) q=(BQ cs q).map BG
 |[],cs=>rfl
 |c::q,cs=>by
  simp only [BQ,Jb]
  cases cs[c]? with
  |none=>rfl
  |some t=>
   cases t with
   |sl o e sz cells=>exact TP q cells
   |_=>rfl
def rH:TV->List TV->TV
 | .sl _ e s _,row=> .sl false e s row
 |t,_=>t
def Xb (cs:List TV) (j:Nat) (row:List TV):List TV:=match cs[j]? with
 |some t=>cs.set j (rH t row)
 |none=>cs
theorem gW {cs:List TV} {j e s:Nat} {row:List TV} (h:cs[j]?=some (.sl true e s row)) (c:Nat):(Xb cs j (BG row))[c]?=if c=j then some (.sl false e s (BG row))else cs[c]? :=by
 have hj:=(Ah.1 h).1;simp only [Xb,h,rH];rw [Cp];by_cases hc:j=c
 ·subst hc;simp [hj]
 ·rw [A0 hc,A0 (fun e=>hc e.symm)]
theorem AAj {cs:List TV} {j e s:Nat} {row:List TV} (h:cs[j]?=some (.sl true e s row)) {q:List Nat} {r1:List TV} (hq:BQ cs q=some r1) (i:Nat):
  ∃r2,BQ (Xb cs j (BG row)) q=some r2/\(r1[i]?.isSome=true->r2[i]?.isSome=true)/\(J9 r1[i]?=true->J9 r2[i]?=true):=by
 cases q with
 |nil=>
  simp only [BQ]at hq
  injection hq with hq
  subst hq;refine⟨_,rfl,?_,?_⟩
  ·rw [gW h];split
   ·intro _;rfl
   ·exact id
  ·rw [gW h];split
   ·intro _;rfl
   ·exact id
 |cons c q=>
  simp only [BQ,gW h];simp only [BQ]at hq;by_cases hc:c=j
  ·subst hc;rw [h]at hq;simp only at hq;rw [Ay rfl];simp only [TP,hq,Bz];refine⟨_,rfl,?_,?_⟩
   ·rw [Jb];simp
   ·rw [Jb]
    cases r1[i]? with
    |none=>exact id
    |some t=>simp only [J9,Bz,oN];exact id
  ·rw [A0 hc];exact⟨r1,hq,id,id⟩
theorem W8 {w:World} {t':TV}:∀{ts:List TV} {vs:List Value} {F U:List Nat} {j:Nat} {t:TV},Bw w ts vs F U->ts[j]?=some t->F.Nodup->(∀v F1 U1,C7 w t v F1 U1->∃F2 U2,C7 w t' v F2 U2/\EY F1 U1 F2 U2)->
  ∃F' U',Bw w (ts.set j t') vs F' U'/\EY F U F' U'
 |[],vs,F,U,j,t,h,hj,_,_=>by simp at hj
 |x::ts,vs,F,U,0,t,h,hj,hn,hk=>by
  simp at hj;subst hj;simp only [Bw]at h;obtain⟨v,vs',F1,F2,U1,U2,rfl,rfl,rfl,h1,h2⟩:=h;obtain⟨F1',U1',a1,a2⟩:=hk v F1 U1 h1;exact⟨F1'++F2,U1'++U2,by simp only [Dy,Bw];exact⟨v,vs',F1',F2,U1',U2,rfl,rfl,rfl,a1,h2⟩,L9 hn a2 EY.refl⟩
 |x::ts,vs,F,U,j+1,t,h,hj,hn,hk=>by
  simp only [Bw]at h;obtain⟨v,vs',F1,F2,U1,U2,rfl,rfl,rfl,h1,h2⟩:=h;obtain⟨F2',U2',a1,a2⟩:=W8 h2 (by simpa using hj) (Bj.1 hn).2.1 hk;exact⟨F1++F2',U1++U2',by simp only [Lz,Bw];exact⟨v,vs',F1,F2',U1,U2',rfl,rfl,rfl,h1,a1⟩,L9 hn EY.refl a2⟩
theorem Xn {w:World} {a:Act} {E:St} {blk:Root->Nat} {t':TV}:∀{ts:List TV} {vs:List Value} {F U:List Nat} {j:Nat} {t:TV},C9 w a E blk ts vs F U->ts[j]?=some t->F.Nodup->(∀v F1 U1,CE w a E blk t v F1 U1->∃F2 U2,CE w a E blk t' v F2 U2/\EY F1 U1 F2 U2)->
  ∃F' U',C9 w a E blk (ts.set j t') vs F' U'/\EY F U F' U'
 |[],vs,F,U,j,t,h,hj,_,_=>by simp at hj
 |x::ts,vs,F,U,0,t,h,hj,hn,hk=>by
  simp at hj;subst hj;obtain⟨v,vs',F1,F2,U1,U2,rfl,rfl,rfl,h1,h2⟩:=h;obtain⟨F1',U1',a1,a2⟩:=hk v F1 U1 h1;exact⟨F1'++F2,U1'++U2,by rw [Dy];exact⟨v,vs',F1',F2,U1',U2,rfl,rfl,rfl,a1,h2⟩,L9 hn a2 EY.refl⟩
 |x::ts,vs,F,U,j+1,t,h,hj,hn,hk=>by
  obtain⟨v,vs',F1,F2,U1,U2,rfl,rfl,rfl,h1,h2⟩:=h;obtain⟨F2',U2',a1,a2⟩:=Xn h2 (by simpa using hj) (Bj.1 hn).2.1 hk;exact⟨F1++F2',U1++U2',by rw [Lz];exact⟨v,vs',F1,F2',U1,U2',rfl,rfl,rfl,h1,a1⟩,L9 hn EY.refl a2⟩
section
variable {w0:Base} {FA UA:List Nat} {N:Nat} {w:World} {a:Act} {E:St} {blk:Root->Nat} {FS US:Root->List Nat} {P:Program}
def frE (E:St) (r:Root) (j:Nat) (row:List TV):St:=match E.root r with
 |some cs=>E.setRoot r (Xb cs j row)
 |none=>E
theorem rG {r:Root} {cs:List TV} {j e s:Nat} {row:List TV} (hr:E.root r=some cs) (hj:cs[j]?=some (.sl true e s row)) (hh:r≠ .hand) (R:Root):Ck w w a a E (E.setRoot r (Xb cs j (BG row))) blk blk R:=by
 have c:(E.setRoot r (Xb cs j (BG row))).ver=E.ver:=by cases r<;>rfl
 have d:(E.setRoot r (Xb cs j (BG row))).gen=E.gen:=by cases r<;>rfl
 have f:(Xb cs j (BG row)).length=cs.length:=by simp [Xb,hj]
 have b:∀cs0,E.root R=some cs0->∃cs1,(E.setRoot r (Xb cs j (BG row))).root R=some cs1/\∀q r1,BQ cs0 q=some r1->∀i:Nat,∃r2,BQ cs1 q=some r2/\(r1[i]?.isSome=true->r2[i]?.isSome=true)/\(J9 r1[i]?=true->J9 r2[i]?=true):=by
  intro cs0 h0;by_cases hR:R=r
  ·subst hR;rw [hr]at h0
   injection h0 with h0
   subst h0;refine⟨Xb cs j (BG row),?_,fun q r1 hq i=>AAj hj hq i⟩
   cases R with
   |slot n=>
    simp only [St.root,St.setRoot,Cc,Cd]at hr⊢
    injection hr with hr
    congr 1
    cases hs:E.slots n with
    |one t=>
     rw [hs]at hr;simp only [SV.cells]at hr;subst hr;have:(Xb [t] j (BG row)).length=1:=f
     match hf:Xb [t] j (BG row),this with
     |[x],_=>rfl
    |agg ts=>rfl
    |tup ss=>
     rw [hs]at hr;simp only [SV.cells]at hr;subst hr;simp at hj
   |box n=>simp [St.root,St.setRoot,Cc]
   |ext n=>simp [St.root,St.setRoot,Cc]
   |hand=>exact absurd rfl hh
  ·refine⟨cs0,?_,fun q r1 hq i=>⟨r1,hq,id,id⟩⟩;rw [<-h0];cases r<;>cases R<;>simp only [St.root,St.setRoot,Cc]<;>first
    |exact absurd rfl hh
    |rfl
    |(rw [A0];intro e;exact hR (by rw [e]))
    |(rw [A0];intro e;injection e with e;exact hR (by rw [e]))
    |(rw [A0];intro e;cases e)
 constructor
 ·refine .inr ⟨by rw [c],fun q i v h1 h2=>⟨h1,?_⟩,fun q i ad hq h1 h2=>⟨h1,?_⟩⟩
  ·unfold St.place at h2⊢
   cases h0:E.root R with
   |none=>rw [h0]at h2;cases h2
   |some cs0=>
    rw [h0]at h2;obtain⟨cs1,k1,k2⟩:=b cs0 h0;simp only [Aa]at h2
    cases hc:BQ cs0 q with
    |none=>rw [hc]at h2;cases h2
    |some r1=>
     rw [hc]at h2;obtain⟨r2,k3,_,k4⟩:=k2 q r1 hc i;rw [k1];simp only [Aa,k3];exact k4 h2
  ·unfold St.place at h2⊢
   cases h0:E.root R with
   |none=>rw [h0]at h2;cases h2
   |some cs0=>
    rw [h0]at h2;obtain⟨cs1,k1,k2⟩:=b cs0 h0;simp only [Aa]at h2
    cases hc:BQ cs0 q with
    |none=>rw [hc]at h2;cases h2
    |some r1=>
     rw [hc]at h2;obtain⟨r2,k3,k4,_⟩:=k2 q r1 hc i;rw [k1];simp only [Aa,k3];exact k4 h2
 ·refine .inr ⟨by rw [d],fun i ad h1 h2=>⟨h1,?_⟩⟩;unfold St.place at h2⊢
  cases h0:E.root R with
  |none=>rw [h0]at h2;cases h2
  |some cs0=>
   rw [h0]at h2;obtain⟨cs1,k1,k2⟩:=b cs0 h0;simp only [Aa]at h2;obtain⟨r2,k3,k4,_⟩:=k2 [] cs0 rfl i;rw [k1];simp only [Aa,k3];exact k4 h2
theorem CB.freeze (h:CB w0 FA UA N w a E blk FS US) {r:Root} {cs:List TV} {j e s:Nat} {row:List TV} (hr:E.root r=some cs) (hj:cs[j]?=some (.sl true e s row)) (hh:r≠ .hand):
  ∃FS' US',CB w0 FA UA N w a (E.setRoot r (Xb cs j (BG row))) blk FS' US'/\FS' .hand=FS .hand/\US' .hand=US .hand:=by
 have p:=rG (w:=w) (a:=a) (blk:=blk) hr hj hh;have c:Xb cs j (BG row)=cs.set j (.sl false e s (BG row)):=by simp only [Xb,hj,rH]
 have g:∀v F1 U1,C7 w (.sl true e s row) v F1 U1->∃F2 U2,C7 w (.sl false e s (BG row)) v F2 U2/\EY F1 U1 F2 U2:=fun v F1 U1 h1=>pY h1 (vN.s rfl)
 have u:∃F' U',EY (FS r) (US r) F' U'/\(∀n,r= .slot n->Eq w a (E.setRoot r (Xb cs j (BG row))) blk ((E.slots n).withCells (Xb cs j (BG row))) (a.eval (.tmp n)) F' U')/\
   (r.mem=true->∃cur T F,w.heap[blk r]?=some (.cells cur T (0,0))/\Bw w (Xb cs j (BG row)) cur.toList F U'/\F'=blk r::F):=by
  cases r with
  |slot n=>
   simp only [St.root]at hr
   injection hr with hr
   have hs:=GU p (h.slot n) (fun _ _=>rfl) (fun _ _=>rfl)
   cases d:E.slots n with
   |one t=>
    rw [d]at hr hs;simp only [SV.cells]at hr;subst hr;have x:j=0:=by
     have:=(Ah.1 hj).1;simpa using this
    subst x;simp at hj;subst hj;simp only [Eq]at hs;obtain⟨F2,U2,k1,k2⟩:=g _ _ _ hs.1;refine⟨F2,U2,k2,fun m hm=>?_,fun hm=>(by cases hm)⟩
    injection hm with hm
    subst hm;rw [d,c];simp only [Dy,SV.withCells,Eq];exact⟨k1,fun _=>hs.2 rfl⟩
   |agg ts=>
    rw [d]at hr hs;simp only [SV.cells]at hr;subst hr;simp only [Eq]at hs;obtain⟨vs,k0,k1⟩:=hs;obtain⟨F2,U2,k2,k3⟩:=Xn (t':= .sl false e s (BG row)) k1 hj (h.nodup _) g;refine⟨F2,U2,k3,fun m hm=>?_,fun hm=>(by cases hm)⟩
    injection hm with hm
    subst hm;rw [d,c];simp only [SV.withCells,Eq];rw [c]at k2;exact⟨vs,k0,k2⟩
   |tup ss=>
    rw [d]at hr;simp only [SV.cells]at hr;subst hr;simp at hj
  |hand=>exact absurd rfl hh
  |box n=>
   rcases h.box (.box n) rfl with⟨k,_⟩|⟨cs0,cur,T,F,k1,k2,k3,k4⟩
   ·simp only [St.root]at hr;rw [k]at hr;cases hr
   ·simp only [St.root]at hr;rw [k1]at hr
    injection hr with hr
    subst hr;have f:=h.nodup (.box n);rw [k4]at f;obtain⟨i,l⟩:=Dz.1 f;obtain⟨F2,U2,k5,k6⟩:=W8 (t':= .sl false e s (BG row)) k3 hj l g;refine⟨blk (.box n)::F2,U2,?_,fun m hm=>(by cases hm),fun _=>⟨cur,T,F2,k2,by rw [c];exact k5,rfl⟩⟩;rw [k4];refine⟨k6.1.cons_cons _,fun b hb=>?_⟩
    rcases k6.2 b hb with q|⟨q1,q2⟩
    ·exact .inl q
    ·refine .inr ⟨by simp [q1],fun hc=>?_⟩
     rcases B7.1 hc with rfl|hc
     ·exact i q1
     ·exact q2 hc
  |ext n=>
   rcases h.box (.ext n) rfl with⟨k,_⟩|⟨cs0,cur,T,F,k1,k2,k3,k4⟩
   ·simp only [St.root]at hr;rw [k]at hr;cases hr
   ·simp only [St.root]at hr;rw [k1]at hr
    injection hr with hr
    subst hr;have f:=h.nodup (.ext n);rw [k4]at f;obtain⟨i,l⟩:=Dz.1 f;obtain⟨F2,U2,k5,k6⟩:=W8 (t':= .sl false e s (BG row)) k3 hj l g;refine⟨blk (.ext n)::F2,U2,?_,fun m hm=>(by cases hm),fun _=>⟨cur,T,F2,k2,by rw [c];exact k5,rfl⟩⟩;rw [k4];refine⟨k6.1.cons_cons _,fun b hb=>?_⟩
    rcases k6.2 b hb with q|⟨q1,q2⟩
    ·exact .inl q
    ·refine .inr ⟨by simp [q1],fun hc=>?_⟩
     rcases B7.1 hc with rfl|hc
     ·exact i q1
     ·exact q2 hc
 obtain⟨F',U',hl,y,z⟩:=u
 have o:∀b∈F',b∈FS r:=fun b hb=>hl.1.subset hb
 refine⟨Cc FS r F',Cc US r U',?_,by rw [Bs (fun e=>hh e.symm)],by rw [Bs (fun e=>hh e.symm)]⟩;have hF:∀R b,b∈Cc FS r F' R->b∈FS R:=by
  intro R b hb;by_cases hR:R=r
  ·subst hR;rw [BO]at hb;exact o b hb
  ·rw [Bs hR]at hb;exact hb
 have hU:∀R b,b∈Cc US r U' R->b∈US R\/(R=r/\b∈FS r/\b∉F'):=by
  intro R b hb;by_cases hR:R=r
  ·subst hR;rw [BO]at hb
   rcases hl.2 b hb with q|⟨q1,q2⟩
   ·exact .inl q
   ·exact .inr ⟨rfl,q1,q2⟩
  ·rw [Bs hR]at hb;exact .inl hb
 constructor
 ·intro n;by_cases hn:r= .slot n
  ·subst hn;rw [BO,BO];have:=y n rfl;simpa only [St.setRoot,Cc,Cd]using this
  ·rw [Bs (fun e=>hn e.symm),Bs (fun e=>hn e.symm)];have h1:(E.setRoot r (Xb cs j (BG row))).slots n=E.slots n:=by
    cases r with
    |slot m=>
     simp only [St.setRoot,Cc];rw [A0];intro e;exact hn (by rw [e])
    |_=>rfl
   rw [h1];exact GU p (h.slot n) (fun _ _=>rfl) (fun _ _=>rfl)
 ·intro R hm;by_cases hR:R=r
  ·subst hR;right;obtain⟨cur,T,F,k1,k2,k3⟩:=z hm;refine⟨_,cur,T,F,?_,k1,by rw [BO];exact k2,by rw [BO,k3]⟩
   cases R with
   |slot n=>cases hm
   |hand=>cases hm
   |box n=>simp [St.setRoot,Cc]
   |ext n=>simp [St.setRoot,Cc]
  ·rw [Bs hR,Bs hR];have h1:(E.setRoot r (Xb cs j (BG row))).boxes R=E.boxes R:=by
    cases r<;>simp only [St.setRoot,Cc]<;>first
     |rfl
     |(rw [A0 hR])
   rw [h1];exact h.box R hm
 ·have:(E.setRoot r (Xb cs j (BG row))).boxes .hand=E.boxes .hand:=by
   cases r<;>simp only [St.setRoot,Cc]<;>first
    |exact absurd rfl hh
    |rfl
    |(rw [A0 (by simp)])
  rw [this];exact h.nohand
 ·intro R;by_cases hR:R=r
  ·subst hR;rw [BO];exact hl.1.nodup (h.nodup R)
  ·rw [Bs hR];exact h.nodup R
 ·exact fun R S h0 b hb hb'=>h.dis R S h0 b (hF R b hb) (hF S b hb')
 ·intro R S b hb hb'
  rcases hU S b hb' with q|⟨rfl,q1,q2⟩
  ·exact h.disU R S b (hF R b hb) q
  ·by_cases hR:R=S
   ·subst hR;rw [BO]at hb;exact q2 hb
   ·exact h.dis R S hR b (hF R b hb) q1
 ·exact fun R b hb=>h.inF R b (hF R b hb)
 ·intro R b hb
  rcases hU R b hb with q|⟨rfl,q1,_⟩
  ·exact h.inU R b q
  ·obtain⟨q2,q3⟩:=h.inF R b q1;exact⟨.inr q2,q3⟩
 ·exact h.disA
 ·exact h.os
 ·exact h.tape
 ·exact h.output
 ·exact h.size
 ·exact h.keep
 ·exact h.len
 ·exact h.nodef
 ·exact h.xblk
 ·rw [EB];exact h.ambB
 ·rw [EB];exact h.ambI
 ·rw [Hd];exact h.frz
 ·exact h.ambF
end
section
variable {P:Program} {N:Nat} {E:St} {ops:Array Oper} {i m:Nat} {Q:Exit->St->Prop} {K:St->Prop} {ts dn:List Nat} {row row':List TV}
theorem AAl {r:Root} {j:Nat} (h:Pu E r j=some row):∃cs e s,E.root r=some cs/\cs[j]?=some (.sl true e s row)/\frE E r j (BG row)=E.setRoot r (Xb cs j (BG row)):=by
 obtain⟨cs,e,s,h1,h2,_⟩:=Pt h;exact⟨cs,e,s,h1,h2,by unfold frE;rw [h1]⟩
def UT:Root->Bool
 | .hand=>false
 |_=>true
theorem QS {r:Root} (h:UT r=true):r≠ .hand:=by rintro rfl;cases h
theorem RW.fz (r:Root) (j:Nat) (hs:BG row=row') (h:RW P N ops i (frE E r j row') Q) (ho:Pu E r j=some row:=by kernel_rfl) (hh:UT r=true:=by rfl):RW P N ops i E Q:=by
 intro w0 FA UA w a blk FS US hr hF hU;obtain⟨cs,e,s,h1,h2,h3⟩:=AAl ho;obtain⟨FS',US',k1,k2,k3⟩:=hr.freeze h1 h2 (QS hh);rw [<-hs,h3]at h;exact h _ _ _ _ _ _ _ _ k1 (by rw [k2,hF]) (by rw [k3,hU])
theorem KW.fz (r:Root) (j:Nat) (hs:BG row=row') (h:KW P N ops ts dn (frE E r j row') Q) (ho:Pu E r j=some row:=by kernel_rfl) (hh:UT r=true:=by rfl):KW P N ops ts dn E Q:=by
 intro hq hc w0 FA UA w a blk FS US hr hF hU;obtain⟨cs,e,s,h1,h2,h3⟩:=AAl ho;obtain⟨FS',US',k1,k2,k3⟩:=hr.freeze h1 h2 (QS hh);rw [<-hs,h3]at h;exact h hq hc _ _ _ _ _ _ _ _ k1 (by rw [k2,hF]) (by rw [k3,hU])
theorem Wp.fz {c:Code} (r:Root) (j:Nat) (hs:BG row=row') (h:Wp P N c (frE E r j row') Q) (ho:Pu E r j=some row:=by kernel_rfl) (hh:UT r=true:=by rfl):Wp P N c E Q:=by
 intro w0 FA UA w a blk FS US hr hF hU;obtain⟨cs,e,s,h1,h2,h3⟩:=AAl ho;obtain⟨FS',US',k1,k2,k3⟩:=hr.freeze h1 h2 (QS hh);rw [<-hs,h3]at h;exact h _ _ _ _ _ _ _ _ k1 (by rw [k2,hF]) (by rw [k3,hU])
end
end Go.TI
namespace Go.TI
open Go Go.RowKit
def St.fzs (E:St) (f:Option Nat):St:={E with fz:=f}
section
variable {w0:Base} {FA UA:List Nat} {N:Nat} {w:World} {a:Act} {E:St} {blk:Root->Nat} {FS US:Root->List Nat} {P:Program}
theorem oH {f:Option Nat} (r:Root):Ck w w a a E (E.fzs f) blk blk r:=by
 have hp:∀q j,(E.fzs f).place r q j=E.place r q j:=fun q j=>by cases r<;>rfl
 exact⟨.inr ⟨rfl,fun q j v h1 h2=>⟨h1,by rw [hp];exact h2⟩,fun q j ad _ h1 h2=>⟨h1,by rw [hp];exact h2⟩⟩,.inr ⟨rfl,fun j ad h1 h2=>⟨h1,by rw [hp];exact h2⟩⟩⟩
theorem CB.fzs (h:CB w0 FA UA N w a E blk FS US) (f:Option Nat) (hf:∀n,f=some n->Frz w0 a n):CB w0 FA UA N w a (E.fzs f) blk FS US where
 slot:=fun n=>GU oH (h.slot n) (fun _ _=>rfl) (fun _ _=>rfl)
 box:=h.box
 nohand:=h.nohand
 nodup:=h.nodup
 dis:=h.dis
 disU:=h.disU
 inF:=h.inF
 inU:=h.inU
 disA:=h.disA
 os:=h.os
 tape:=h.tape
 output:=h.output
 size:=h.size
 keep:=h.keep
 len:=h.len
 nodef:=h.nodef
 xblk:=h.xblk
 ambB:=h.ambB
 ambI:=h.ambI
 frz:=hf
 ambF:=h.ambF
theorem tN (n:Nat):(2*n+1)/2=n:=by omega
theorem tM (n:Nat):¬(2*n+1) %2=0:=by omega
def ABz (o:Oper):Bool:=match o.op with
 | .buildSlice t len parts=>Nat.beq len 0&&Nat.beq parts.size 0
 |_=>false
theorem ACt {o:Oper} {E':St} {d:Nat} (hb:ABz o=true) (hd:o.dst=some d) (hN:d<N) (hs:BX P N false E o=some E') {nx:Next} {w':World} (hr:(execOp a.eval o).run P w= .ok nx w'):∃B,nx= .value (.slice B 0 0):=by
 unfold ABz at hb;split at hb
 ·rename_i t len parts ho;rw [An]at hb;have h1:=Bn hb.1;have h2:=Bn hb.2;subst h1;have h3:parts= #[]:=Array.eq_empty_of_size_eq_zero h2;subst h3;simp only [BX,hd,Ay hN,ho,Ku]at hs;split at hs
  ·rename_i e hu;split at hs
   ·rename_i zs ss hz b;obtain⟨i,z,hi,c,f,g⟩:=I1 (w:=w) hz;simp [execOp,ho,Instr.buildSlice,run_underlying hu,sizeOf,typeInfo,hi,newRow,Instr.fill]at hr;obtain⟨hr,_⟩:=hr;exact⟨_,hr.symm⟩
   ·cases hs
  ·cases hs
 ·cases hb
end
section
variable {P:Program} {N:Nat} {E:St} {ops:Array Oper} {i:Nat} {Q:Exit->St->Prop} {ts dn:List Nat}
def yD (x:Operand):Nat:=match x with
 | .tmp n=>n
 |_=>0
theorem sH (h:KW P N ops ts (i::dn) (((BX P N false E (oA ops i)).getD E).fzs (some (2*((oA ops i).dst.getD 0)+1))) Q) (hs:(BX P N false E (oA ops i)).isSome=true:=by kernel_rfl) (hk:(UC P ops E i&&ABz (oA ops i)&&G6 N (oA ops i))=true:=by kernel_rfl):KB P N ops ts dn i E Q:=by
 have hs':=getD_some (a:=E) hs;generalize hE:(BX P N false E (oA ops i)).getD E=E' at h hs';simp only [An]at hk;obtain⟨h1,h2⟩:=Ir hk.1.1;obtain⟨d,h3,_,h4⟩:=EO hk.2;rw [h3]at h;simp only [Bb]at h;have b:kp (oA ops i)=true:=by
  have:=hk.1.2;unfold ABz at this;unfold kp;split at this
  ·rename_i ho;rw [ho]
  ·cases this
 intro w0 FA UA w a blk FS US hr hF hU;unfold wpOp;simp only [HC h1,Ct hr h2,Cd];obtain⟨nx,w',v,blk',FS',US',k1,k2,k3,k4,k5,k6⟩:=OZ hr hF hU hs';obtain⟨B,hB⟩:=ACt (N:=N) hk.1.2 h3 h4 hs' k1;have hv:v= .slice B 0 0:=by
  rcases k2 with k2|⟨k2,_⟩
  ·rw [hB]at k2;injection k2 with k2;exact k2.symm
  ·rw [hB]at k2;cases k2
 refine .inl ?_;unfold Oper.wp;rw [k1,hB];refine⟨fun _=>k6 b,_,blk',FS',US',h,?_,k4,k5⟩;rw [hv]at k3;refine k3.fzs _ (fun n hn=>?_)
 injection hn with hn
 subst hn;unfold Frz;rw [A0 (tM d),tN d,h3];refine⟨B,?_⟩;have:=k3.len;simp only [Act.eval,Act.put];rw [Eb];have hl:=hr.len;have c:d<a.tmps.size:=Bf h4 hl;simp [Array.getElem?_setIfInBounds_self,c]
theorem iJ {E':St} (hs:BX P N false E (oA ops i)=some E') (h:KW P N ops ts (i::dn) (E'.fzs none) Q) (hk:(UC P ops E i&&AAa (oA ops i)&&Nat.beq (Em (oA ops i)).1 (Em (oA ops i)).2.1&&G6 N (oA ops i))=true:=by kernel_rfl) (hx:(Em (oA ops i)).2.2.1= .tmp (yD (Em (oA ops i)).2.2.1):=by kernel_rfl) (hz:E.fz=some (2*yD (Em (oA ops i)).2.2.1+1):=by kernel_rfl):KB P N ops ts dn i E Q:=by
 simp only [An]at hk;obtain⟨⟨⟨h0,h5⟩,h6⟩,h7⟩:=hk;obtain⟨h1,h2⟩:=Ir h0;obtain⟨d,h3,_,h4⟩:=EO h7;have c:=Bn h6;have ho:=fM h5;rw [<-c]at ho;intro w0 FA UA w a blk FS US hr hF hU;unfold wpOp;simp only [HC h1,Ct hr h2,Cd];have he:JZ P E d (Em (oA ops i)).1 (Em (oA ops i)).2.2.1 (Em (oA ops i)).2.2.2=some E':=by
  unfold BX at hs;rw [h3]at hs;simpa only [Ay h4,ho,Cd]using hs
 obtain⟨nx,w',v,blk',FS',US',k1,k2,k3,k4,k5,_,k6⟩:=Sz hr hF hU ho h3 h4 he;have b:=hr.frz _ hz;unfold Frz at b;rw [A0 (tM _),tN,<-hx]at b;obtain⟨B,hB⟩:=b;refine .inl ?_;unfold Oper.wp;rw [k1]
 rcases k2 with rfl|⟨rfl,rfl⟩
 ·exact⟨fun _=>k6 B hB,_,blk',FS',US',h,k3.fzs none (fun n hn=>by cases hn),k4,k5⟩
 ·exact⟨fun _=>k6 B hB,_,blk',FS',US',h,k3.fzs none (fun n hn=>by cases hn),k4,k5⟩
end
end Go.TI
namespace Go.TI
open Go Go.RowKit
def rm (k:IntKind) (a b:Int):Option Int:=if b=0 then none else some (a.tmod b)
def ban (k:IntKind) (a b:Int):Int:=k.wrap (BitVec.ofInt k.bits a&&&BitVec.ofInt k.bits b).toNat
def bxo (k:IntKind) (a b:Int):Int:=k.wrap (BitVec.ofInt k.bits a^^^BitVec.ofInt k.bits b).toNat
section
variable {P:Program} {E:St} {o:Oper}
def AB2 (P:Program) (E:St) (o:Oper) (k:IntKind) (q:Bool):Option (Int×Int):=match o.op with
 | .binOp op t x y _=>bif(match op with| .rem=>!q| .quo=>q|_=>false)then(match E.cell1 P t x,E.cell1 P t y with
  |some (.int k' a),some (.int k'' b)=>bif decide (k'=k)&&decide (k''=k)then some (a,b)else none
  |_,_=>none)else none
 |_=>none
theorem prm {k:IntKind} {a b v:Int} (hx:rm k a b=some v) (hc:AB2 P E o k false=some (a,b):=by kernel_rfl):Bh P E o=some (.one (.int k v)):=by
 unfold AB2 at hc;split at hc
 ·rename_i op t x y t' ho;cases op<;>simp only [Be,Af,Ad,reduceCtorEq]at hc;split at hc
  ·rename_i k' a' k2 b' h1 h2
   cases hk:(decide (k'=k)&&decide (k2=k))with
   |false=>rw [hk]at hc;cases hc
   |true=>
    rw [hk]at hc;simp only [Af]at hc
    injection hc with hc
    injection hc with hc1 hc2
    rw [An]at hk;have e1:=IT hk.1;have e2:=IT hk.2;subst hc1 hc2 e1 e2;unfold rm at hx;split at hx
    ·cases hx
    ·rename_i hb
     injection hx with hx
     subst hx;simp only [Bh,ho,h1,h2,Th,Cd,TT,AAb,A0 hb,Bz]
  ·cases hc
 ·cases hc
end
def iK (P:Program) (f:FuncId) (as:List AV) (cells:List TV):Prop:=
 ∀(w:World) (vs:List Value) (FA UA:List Nat),Ic w as vs FA UA->FA.Nodup->(∀b∈FA,b∉UA)->(∀b∈FA++UA,b<w.heap.size)->
  Calls P f vs.toArray w fun e w'=>∃v F U G V,e= .returned v/\Zx w w' FA UA (.tup []) [.ext cells] [v] (.tuple #[]) F U G V
theorem gkp {P:Program} {f:FuncId} {fn:Func} {c:Code} {as:List AV} {cells:List TV} {N:Nat} (hf:P.funcs[f]?=some fn) (hb:fn.body=some c) (hN:fn.ntmps=N)
  (h:Wp P N c (DT as) fun e E=>(e= .normal\/e= .ret)/\∃t r,fn.results.toList=[.tmp t]/\E.ptr? (.tmp t)=some (r,[],0)/\r.mem=true/\E.boxes r=some cells) (k:cells.isEmpty=false:=by rfl):iK P f as cells:=by
 subst hN;intro w vs FA UA ha l i m;obtain⟨blk,FS,US,hr,hF,hU⟩:=NC (N:=fn.ntmps) ha l i m (A:=HL.none) (fz:=none) trivial (fun b hb=>by cases hb);refine calls_of_wp hf hb (wp_mono (h _ _ _ _ _ _ _ _ hr hF hU) ?_);rintro e a w' ⟨E,blk',FS',US',⟨he,t,r,h1,h2,h3,h4⟩,k3,h5,h6⟩;obtain⟨s,ad,d,o⟩:=Lp k3 h2;have p:ad=⟨blk' r,0,none⟩:=by
  cases r with
  |slot n=>cases h3
  |hand=>cases h3
  |box n=>simp only [pa]at d;injection d with d;rw [<-d];simp [Addr.add]
  |ext n=>simp only [pa]at d;injection d with d;rw [<-d];simp [Addr.add]
 obtain⟨cur,T,F3,b2,b3,b4⟩:∃cur T F3,w'.heap[blk' r]?=some (.cells cur T (0,0))/\Bw w' cells cur.toList F3 (US' r)/\FS' r=blk' r::F3:=by
  rcases k3.box r h3 with⟨q,_⟩|⟨cs,cur,T,F3,q1,q2,q3,q4⟩
  ·rw [h4]at q;cases q
  ·rw [h4]at q1
   injection q1 with q1
   subst q1;exact⟨cur,T,F3,q2,q3,q4⟩
 have hne':cells≠ []:=by rintro rfl;cases k
 have j:(fn.results.toList.mapM (MU P a.tmps)).run P w'= .ok [a.eval (.tmp t)] w':=by
  rw [h1,List.mapM_cons];simp [MU,Act.eval]
 have g:a.defers=[]/\∃v,(results fn a.tmps).run P w'= .ok v w'/\∃v' F U G V,Ending.returned v= .returned v'/\Zx w w' FA UA (.tup []) [.ext cells] [v'] (.tuple #[]) F U G V:=by
  refine⟨k3.nodef,_,K8 j,a.eval (.tmp t),[],[],FS' r,US' r,by simp,?_⟩
  exact{
   res:=by simp only [Qn];exact⟨[],rfl,by simp [LG]⟩
   fin:=⟨_,[],FS' r,[],US' r,[],rfl,by simp,by simp,⟨blk' r,cur,T,F3,by rw [o,p],b2,b3,b4,hne'⟩,⟨rfl,rfl,rfl⟩⟩
   nodup:=by simpa using k3.nodup r
   dis:=fun b hb hb'=>k3.disU r r b (by simpa using hb) (by simpa using hb')
   inF:=fun b hb=>k3.inF r b (by simpa using hb)
   inU:=fun b hb=>k3.inU r b (by simpa using hb)
   os:=k3.os
   tape:=k3.tape
   output:=k3.output
   size:=k3.size
   keep:=fun b hb hF=>k3.keep b hb hF (fun e=>by cases e)}
 rcases he with rfl|rfl
 ·exact g
 ·exact g
section
variable {w0:Base} {FA UA:List Nat} {N:Nat} {w:World} {a:Act} {E:St} {blk:Root->Nat} {FS US:Root->List Nat} {P:Program}
theorem AAx (h:CB w0 FA UA N w a E blk FS US) (hF:FS .hand=[]) (hU:US .hand=[]) {o:Oper} {f:FuncId} {args:Array Operand} {tys:Array TypeId} (ho:o.op= .call {callee:= .value (.func f),args:=args,argTypes:=tys}) (hf:gT P f)
  {d:Nat} (hd:o.dst=some d) (hN:d<N) {l:List (Bool×TypeId×Operand)} (hl:l.map (fun x=>x.2.2)=args.toList) {as:List AV} {cells:List TV} (hg:iK P f as cells) {ss:List (Option SV)} {E1:St} {c:Bool} (h1:Jn P E l=some (ss,E1)) (h2:Hb P E1 l ss=some (as,c)) (h3:c=true\/AT cells=false)
  {K:Act->World->Prop} {Q:Exit->Act->World->Prop} (hK:∀w' v blk' FS' US',CB w0 FA UA N w' (a.put (some d) v) (E1.newBox d cells) blk' FS' US'->FS' .hand=[]->US' .hand=[]->K (a.put (some d) v) w'):o.wp P a w K Q:=by
 obtain⟨FS1,US1,F,U,k1,k2,k3,k4,_⟩:=Om h h1;rw [hF,A7]at k3;rw [hU,A7]at k4;obtain⟨U',k5,k6⟩:=JD k2 k1 h2;have h9:l.map (fun x=>a.eval x.2.2)=(args.map a.eval).toList:=by
  rw [NE,<-hl,Es];rfl
 rw [h9]at k5;have m:∀b∈F,b∉U':=by
  intro b hb hb';rw [<-k3]at hb
  rcases k6 b hb' with h4|⟨r,h4⟩|⟨_,r,h5,h4⟩
  ·rw [<-k4]at h4;exact k2.disU .hand .hand b hb h4
  ·exact k2.disU .hand r b hb h4
  ·exact k2.dis .hand r (E6 h5) b hb h4
 have j:=hg w _ F U' k5 (by rw [<-k3];exact k2.nodup .hand) m (by
  intro b hb
  rcases Aj.1 hb with hb|hb
  ·exact(k2.inF .hand b (by rw [k3];exact hb)).2
  ·rcases k6 b hb with h4|⟨r,h4⟩|⟨_,r,h5,h4⟩
   ·exact(k2.inU .hand b (by rw [k4];exact h4)).2
   ·exact(k2.inU r b h4).2
   ·exact(k2.inF r b h4).2)
 unfold Oper.wp;rw [IE ho hf];simp only [Oper.upon];rw [OF]at j;refine Calls.mono j ?_;rintro e w' ⟨v,Fr,Ur,G,V,rfl,g⟩;obtain⟨v0,vs0,G1,G2,V1,V2,p,rfl,rfl,⟨b0,cur,T,F0,rfl,e1,e2,rfl,e3⟩,⟨rfl,rfl,rfl⟩⟩:=g.fin
 injection p with p _
 subst p;have u:=g.res;simp only [Qn,LG]at u;obtain⟨_,_,_,rfl,rfl⟩:=u;have y:=g.nodup;simp only [A7,As]at y;have a0:∀b∈b0::F0,(b∈FS1 .hand\/w.heap.size<=b)/\b<w'.heap.size:=by
  intro b hb;have:=g.inF b (by simpa using hb);rw [k3];exact this
 have z:∀b∈V1,(∃s,b∈US1 s)\/((b∈FS1 .hand\/w.heap.size<=b)/\b∉b0::F0/\b<w'.heap.size):=by
  intro b hb;obtain⟨h4,h5⟩:=g.inU b (by simpa using hb)
  have k:b∉b0::F0:=fun e=>g.dis b (by simpa using e) (by simpa using hb)
  rcases h4 with h4|h4|h4
  ·rcases k6 b h4 with h6|h6|⟨h6,r,h7,h8⟩
   ·exact .inl ⟨.hand,by rw [k4];exact h6⟩
   ·exact .inl h6
   ·rcases h3 with h3|h3
    ·rw [h3]at h6;cases h6
    ·have:=Jm e2 h3;subst this;cases hb
  ·exact .inr ⟨.inl (by rw [k3];exact h4),k,h5⟩
  ·exact .inr ⟨.inr h4,k,h5⟩
 have i:∀b,b<w.heap.size->b∉FS1 .hand->w'.heap[b]?=w.heap[b]? :=fun b hb t=>g.keep b hb (by rw [<-k3];exact t)
 let E2:St:={E1 with boxes:=Cc E1.boxes (.box d) (some cells),ver:=Cc E1.ver (.box d) (E1.ver (.box d)+1),gen:=Cc E1.gen (.box d) (E1.gen (.box d)+1)}
 let blk1:=Cc blk (.box d) b0
 have a1:Root.box d≠Root.hand:=by simp
 have a2:∀s,Ck w w' a a E1 E2 blk blk1 s:=by
  intro s;by_cases hs:s= .box d
  ·subst hs;exact⟨.inl (by simp [E2,Cc]),.inl (by simp [E2,Cc])⟩
  ·have hv:E2.ver s=E1.ver s:=by simp [E2,Cc,hs]
   have hg:E2.gen s=E1.gen s:=by simp [E2,Cc,hs]
   by_cases hh:s= .hand
   ·subst hh;exact Fu hv hg (by simp [St.root,k2.nohand])
   ·refine DB k2 hv hg ?_ (fun _ _=>rfl) (fun _=>by simp [blk1,Cc,hs]) (fun b hb=>i b (k2.inF s b hb).2 (k2.dis s .hand hh b hb)) (fun b hb=>i b (k2.inU s b hb).2 (fun e=>k2.disU .hand s b e hb));cases s<;>simp_all [E2,St.root,Cc]
 have g1:=k2.two (w':=w') (a':=a) (E':=E2) (blk':=blk1) (r1:= .box d) (r2:= .hand) (L1:=b0::F0) (L2:=[]) (V1:=V1) (V2:=[]) a1
  (by simpa using y)
  (fun b hb=>by
   have hb':b∈b0::F0:=by simpa using hb
   obtain⟨q1,q2⟩:=a0 b hb'
   exact⟨.inr q1,q2⟩)
  (fun b hb=>by
   have hb':b∈V1:=by simpa using hb
   rcases z b hb' with q|⟨q1,q2,q3⟩
   ·exact .inl q
   ·exact .inr ⟨.inr q1,by simpa using q2,q3⟩)
  g.size g.os g.tape g.output (fun b hb _ t=>i b hb t) a2
  (fun n _ _=>⟨rfl,rfl⟩)
  (fun s _ hs _=>⟨by simp [E2,Cc,hs],by simp [blk1,Cc,hs]⟩)
  (.inr ⟨cells,cur,T,F0,by simp [E2,Cc],by simp [blk1,Cc,e1],e2,by simp [blk1,Cc]⟩)
  trivial (by simp [E2,Cc,k2.nohand]) k2.len k2.nodef (hfz:=fun n hn=>k2.frz n hn)
 have a3:Eq w' a E2 blk1 (.one (.ptr (.box d) (E2.gen (.box d)) [] 0)) (.pointer (some ⟨b0,0,none⟩)) [] []:=by
  have h0:E2.stamp (.box d) []=E2.gen (.box d):=rfl;rw [<-h0];refine RF ?_ ?_
  ·cases hc:cells with
   |nil=>exact absurd hc e3
   |cons x xs=>simp [St.place,St.root,E2,Cc,BQ,hc]
  ·simp [pa,blk1,Cc,Addr.add]
 have g2:=g1.put (d:=d) hN a3 Zz.none;have:=hK w' _ blk1 _ _ g2 (by rw [Bs (by simp),BO]) (by rw [Bs (by simp),BO]);rw [hd];exact this
end
section
variable {P:Program} {N:Nat} {E:St} {ops:Array Oper} {i:Nat} {Q:Exit->St->Prop} {α β:Type} {r:β}
theorem ADD {x:Option α} {kk:α->Option β} (h:x.bind kk=some r) {cells:α->List TV} {l:List AV} (f:∀v,x=some v->iK P (m9 (oA ops i)) l (cells v)) (hk:∀v,x=some v->kk v=some r->RW P N ops (i+1) ((clE P E (oA ops i) 0).newBox ((oA ops i).dst.getD 0) (cells v)) Q)
  (b:uQ P E (oA ops i) 0=some l:=by kernel_rfl) (hc:shB P E (oA ops i) 0=true:=by kernel_rfl) (ho:(UC P ops E i&&rQ P N (oA ops i)&&G6 N (oA ops i))=true:=by kernel_rfl):RW P N ops i E Q:=by
 obtain⟨v,hv,h⟩:=Aq.1 h;simp only [An]at ho;obtain⟨h1,h2⟩:=Ir ho.1.1;obtain⟨args,tys,h3,h4,h5,h6⟩:=Sl ho.1.2;obtain⟨d,h7,_,h8⟩:=EO ho.2;have e:=hk v hv h;rw [h7]at e;simp only [Bb]at e;unfold RW;rw [Qi h1];intro w0 FA UA w a blk FS US hr hF hU;simp only [wpList,Ct hr h2,Cd];unfold uQ shB shA at*;unfold clE at e
 cases hm:mvA P E (oA ops i) 0 with
 |none=>rw [hm]at b;cases b
 |some z=>
  obtain⟨ss,E1⟩:=z;rw [hm]at b hc e;simp only at b hc e
  cases hs:Hb P E1 (bits 0 (Gb (oA ops i))) ss with
  |none=>rw [hs]at b;cases b
  |some y=>
   obtain⟨as',c⟩:=y;rw [hs]at b hc;simp only [Bz]at b hc
   injection b with b
   subst b;refine .inl (AAx hr hF hU h3 h4 h7 h8 (l:=bits 0 (Gb (oA ops i))) (by rw [N9,h6]) (f v hv) hm hs (.inl hc) fun w' v' blk' FS' US' k1 k2 k3=>e _ _ _ _ _ _ _ _ k1 k2 k3)
end
theorem rsp {E:St} {rs:List ResultVar} {cells:List TV} (t:Nat) (h1:rs=[.tmp t]) (h:(match E.ptr? (.tmp t)with
  |some (r,[],0)=>bif r.mem then E.boxes r else none
  |_=>none)=some cells):∃t r,rs=[.tmp t]/\E.ptr? (.tmp t)=some (r,[],0)/\r.mem=true/\E.boxes r=some cells:=by
 split at h
 ·rename_i r hr
  cases hm:r.mem with
  |false=>rw [hm]at h;cases h
  |true=>rw [hm]at h;exact⟨t,r,h1,hr,hm,h⟩
 ·cases h
end Go.TI
namespace Go.TI
open Go Go.RowKit
def xtE (N:Nat) (E:St) (o:Oper):Option St:=match o.op,o.dst with
 | .extract t ix,some d=>bif Nat.blt d N then Ml E d t ix else none
 |_,_=>none
section
variable {w0:Base} {FA UA:List Nat} {N:Nat} {w:World} {a:Act} {E:St} {blk:Root->Nat} {FS US:Root->List Nat} {P:Program}
theorem ACo (h:CB w0 FA UA N w a E blk FS US) (hF:FS .hand=[]) (hU:US .hand=[]) {o:Oper} {E':St} (he:xtE N E o=some E'):
  ∃v blk' FS' US',(∀w2,(execOp a.eval o).run P w2= .ok (.value v) w2)/\CB w0 FA UA N w (a.put o.dst v) E' blk' FS' US'/\FS' .hand=[]/\US' .hand=[]:=by
 unfold xtE at he;split at he
 ·rename_i t ix d ho hd
  cases hN:Nat.blt d N with
  |false=>rw [hN]at he;cases he
  |true=>
   rw [hN]at he;simp only [Af]at he;have hN':d<N:=by simpa [Bv]using hN
   obtain⟨nx,w',v,blk',FS',US',k1,k2,k3,k4,k5,_⟩:=Ei.extract (P:=P) h hF hU ho hd hN' he;have b:∃x,∀w2,(execOp a.eval o).run P w2= .ok (.value x) w2:=by
    unfold Ml at he;split at he
    ·rename_i n;split at he
     ·rename_i ss c;split at he
      ·rename_i s e;have hs:=h.slot n;rw [c]at hs;simp only [Eq]at hs;obtain⟨vs,f,hx⟩:=hs;obtain⟨v,A,B,C,D,F1,U1,h1,h2,h3,h4,h5⟩:=Vt ix hx e;exact⟨v,fun w2=>by simp [execOp,ho,Instr.extract,f,h1]⟩
      ·cases he
     ·cases he
    ·cases he
   obtain⟨x,hx⟩:=b;rw [hx w]at k1
   injection k1 with q1 q2
   subst q1 q2
   rcases k2 with k2|⟨k2,_⟩
   ·injection k2 with k2
    subst k2;exact⟨_,blk',FS',US',hx,k3,k4,k5⟩
   ·cases k2
 ·cases he
end
section
variable {P:Program} {N:Nat} {E:St} {ops:Array Oper} {i m:Nat} {Q:Exit->St->Prop} {K:St->Prop} {ts dn:List Nat}
theorem Mq (i:Nat) (h:KW P N ops ts (i::dn) ((xtE N E (oA ops i)).getD E) Q) (hs:(xtE N E (oA ops i)).isSome=true:=by kernel_rfl) (hk:(UC P ops E i&&n9 ops ts dn i)=true:=by kernel_rfl):KW P N ops ts dn E Q:=by
 have hs':=getD_some (a:=E) hs;generalize hE:(xtE N E (oA ops i)).getD E=E' at h hs';simp only [An,n9]at hk;obtain⟨h1,h3,h4⟩:=hk;obtain⟨h5,h6⟩:=Ir h1;unfold KW at h⊢;rw [RO (i:=i) h3];intro hQ hc w0 FA UA w a blk FS US k1 k2 k3;obtain⟨e1,e2,e3,e4,e5⟩:=Sg h4;obtain⟨v,blk',FS',US',g1,g2,g3,g4⟩:=ACo (P:=P) k1 k2 k3 hs';refine Le (v:=v) (n:=ops.size) (HC h5) (Region.noSelect_spec e1) (fun c a w hx=>?_) e4 e5 _ _ a w hc (Region.free_spec (HC h5) e2) e3 (.inl ⟨Ct k1 h6,fun w2 _=>g1 w2⟩) ?_
 ·obtain⟨E',blk',FS',US',m1,_⟩:=hx;exact(hQ c E' m1).elim
 ·exact h hQ (Kb hc e3) _ _ _ _ _ _ _ _ g2 g3 g4
def iF (P:Program) (E:St) (o:Oper) (s:SV):Prop:=∀(N:Nat) (w0:Base) (FA UA:List Nat) (w:World) (a:Act) (blk:Root->Nat) (FS US:Root->List Nat),CB w0 FA UA N w a E blk FS US->EA P w a E blk FS US o s
theorem AEi {s:SV} (hp:iF P E (oA ops i) s) (h:RW P N ops (i+1) (E.put (oA ops i).dst s) Q) (hk:(UC P ops E i&&G6 N (oA ops i))=true:=by kernel_rfl):RW P N ops i E Q:=by
 rw [An]at hk;obtain⟨h1,h2⟩:=Ir hk.1;obtain⟨d,h3,_,h4⟩:=EO hk.2;rw [h3]at h;unfold RW;rw [Qi h1];intro w0 FA UA w a blk FS US hr hF hU;simp only [wpList,Ct hr h2,Cd];exact .inl ((Kj hr hF hU (hp _ _ _ _ _ _ _ _ _ hr) h3 h4).wp fun w' v blk' FS' US' k1 k2 k3 _=>h _ _ _ _ _ _ _ _ k1 k2 k3)
theorem AEG {s:SV} (hp:iF P E (oA ops i) s) (h:SW P N ops m (i+1) (E.put (oA ops i).dst s) K) (hk:(UC P ops E i&&G6 N (oA ops i)&&Nat.blt i m)=true:=by kernel_rfl):SW P N ops m i E K:=by
 simp only [An]at hk;obtain⟨h1,h2⟩:=Ir hk.1.1;obtain⟨d,h3,_,h4⟩:=EO hk.1.2;rw [h3]at h;unfold SW;rw [O4 h1 hk.2];intro w0 FA UA w a blk FS US k1 k2 k3;obtain⟨v,U,g1,g2,g3⟩:=hp _ _ _ _ _ _ _ _ _ k1;have hr:=g1 w (fun r _=>⟨fun _ _=>rfl,fun _ _=>rfl⟩);simp only [wpStill,Ct k1 h2,Cd,Oper.still,hr,Oper.stillUpon_value];rw [h3];refine h _ _ _ _ _ _ _ _ (k1.put h4 g2 (N4 k1 g3 _)) ?_ ?_
 ·rw [Bs (by simp),k2]
 ·rw [Bs (by simp),k3]
theorem AEH {s:SV} (i:Nat) (hp:iF P E (oA ops i) s) (h:KW P N ops ts (i::dn) (E.put (oA ops i).dst s) Q) (hk:(UC P ops E i&&G6 N (oA ops i)&&n9 ops ts dn i)=true:=by kernel_rfl):KW P N ops ts dn E Q:=by
 simp only [An,n9]at hk;obtain⟨⟨h1,h2⟩,h3,h4⟩:=hk;obtain⟨h5,h6⟩:=Ir h1;obtain⟨d,h7,_,h8⟩:=EO h2;unfold KW at h⊢;rw [RO (i:=i) h3];rw [h7]at h;intro hQ hc w0 FA UA w a blk FS US k1 k2 k3;obtain⟨e1,e2,e3,e4,e5⟩:=Sg h4;obtain⟨v,U,g1,g2,g3⟩:=hp _ _ _ _ _ _ _ _ _ k1;refine Le (v:=v) (n:=ops.size) (HC h5) (Region.noSelect_spec e1) (fun c a w hx=>?_) e4 e5 _ _ a w hc (Region.free_spec (HC h5) e2) e3 (.inl ⟨Ct k1 h6,fun w2 e=>?_⟩) ?_
 ·obtain⟨E',blk',FS',US',m1,_⟩:=hx;exact(hQ c E' m1).elim
 ·exact g1 w2 (fun r hr=>⟨fun b hb=>e.2 b (k1.inF r b hb).2,fun b hb=>e.2 b (k1.inU r b hb).2⟩)
 ·rw [h7];refine h hQ (Kb hc e3) _ _ _ _ _ _ _ _ (k1.put h8 g2 (N4 k1 g3 _)) ?_ ?_
  ·rw [Bs (by simp),k2]
  ·rw [Bs (by simp),k3]
def ADw (o:Oper):Bool:=match o.op with
 | .assign (.const _)| .move (.const _)=>true
 |_=>false
theorem pjk {o:Oper} (h:ADw o=true:=by kernel_rfl):iF P E o (.one .junk):=by
 intro N w0 FA UA w a blk FS US hr;unfold ADw at h;split at h
 ·rename_i v ho;exact⟨v,[],fun w2 _=>by simp [execOp,ho,Act.eval],by simp [Eq,CE,TV.isJunk],by simp⟩
 ·rename_i v ho;exact⟨v,[],fun w2 _=>by simp [execOp,ho,Act.eval],by simp [Eq,CE,TV.isJunk],by simp⟩
 ·cases h
end
end Go.TI
namespace Go.TI
open Go Go.RowKit
abbrev pb (n:Nat):SV:= .one (.ptr (.box n) 0 [] 0)
abbrev px (n:Nat):SV:= .one (.ptr (.ext n) 0 [] 0)
abbrev i6 (n:Int):TV:= .int .i64 n
abbrev tb (b:Bool):TV:= .bool b
abbrev ts (s:ByteArray):TV:= .str s
abbrev rg (n:Nat):List AV:=List.replicate n .gone
section
variable {P:Program} {N:Nat} {E:St} {ops:Array Oper} {i m:Nat} {Q:Exit->St->Prop} {K:St->Prop} {α β γ:Type} {r:β} {ls ls2:List Nat} {bs bs2:List Root} {S V W:Type} {id:Nat} {ts dn:List Nat}
theorem jn {a v:V} {H:V->St} (h:some v=some a) (hb:bs.all (fun r=>r.mem&&(E.boxes r).isSome)=true:=by kernel_rfl) (hn:Ff E ls bs=H v:=by kernel_rfl):∃a',some a=some a'/\nt ls bs E (H a'):=by
 injection h with h
 subst h;exact⟨_,rfl,hb,hn⟩
theorem jm {a:V⊕W} {v:V} {H:V->St} (h:some (.inl v)=some a) (hb:bs.all (fun r=>r.mem&&(E.boxes r).isSome)=true:=by kernel_rfl) (hn:Ff E ls bs=H v:=by kernel_rfl):∃a',a.getLeft? =some a'/\nt ls bs E (H a'):=by
 injection h with h
 subst h;exact⟨_,rfl,hb,hn⟩
theorem jl {H:S->St} {o:S⊕W} {s:S} (h:some (.inl s)=some o) (hb:bs.all (fun r=>r.mem&&(E.boxes r).isSome)=true:=by kernel_rfl) (hn:Ff E ls bs=H s:=by kernel_rfl):∃s,o= .inl s/\nt ls bs E (H s):=by
 injection h with h
 subst h;exact⟨_,rfl,hb,hn⟩
theorem jx {H:V->St} {o:S⊕(V⊕W)} {v:V} (h:some (.inr (.inl v))=some o) (hb:bs.all (fun r=>r.mem&&(E.boxes r).isSome)=true:=by kernel_rfl) (hn:Ff E ls bs=H v:=by kernel_rfl):∃v,o= .inr (.inl v)/\nt ls bs E (H v):=by
 injection h with h
 subst h;exact⟨_,rfl,hb,hn⟩
theorem jv {H:V->St} {o:S⊕V} {v:V} (h:some (.inr v)=some o) (hb:bs.all (fun r=>r.mem&&(E.boxes r).isSome)=true:=by kernel_rfl) (hn:Ff E ls bs=H v:=by kernel_rfl):∃v,o= .inr v/\nt ls bs E (H v):=by
 injection h with h
 subst h;exact⟨_,rfl,hb,hn⟩
theorem jr {a:V⊕β} {w:β} {f:V->Option β} (h:some (.inr w)=some a) (hk:Sum.elim f some a=some r):some w=some r:=by
 injection h with h
 subst h;exact hk
theorem jo {o:S⊕(V⊕β)} {w:β} {f:V->Option β} (h:some (.inr (.inr w))=some o) (hk:∀w,o= .inr (.inr w)->Sum.elim f some (.inr w)=some r):some w=some r:=by
 injection h with h
 exact hk w h.symm
theorem rr {v r:β} (h:some v=some r):v=r:=Option.some.inj h
theorem rq {e:Exit} {rs:List ResultVar} {res:SV} (he:e= .normal\/e= .ret:=by first|exact .inr rfl|exact .inl rfl) (hk:(Ew P E rs).map (fun z=>EU z.1)=some res:=by kernel_rfl):(e= .normal\/e= .ret)/\∃ss E',Ew P E rs=some (ss,E')/\EU ss=res:=⟨he,rsz hk⟩
theorem rx {e:Exit} {rs:List ResultVar} {res:SV} {cells:List TV} (he:e= .normal\/e= .ret:=by first|exact .inr rfl|exact .inl rfl) (hk:(Ew P E rs).map (fun z=>(EU z.1,z.2.boxes (.ext 0)))=some (res,some cells):=by kernel_rfl):(e= .normal\/e= .ret)/\∃ss E',Ew P E rs=some (ss,E')/\EU ss=res/\E'.boxes (.ext 0)=some cells:=⟨he,rsx hk⟩
theorem FD {c y:Code} {x:Option V} {k:V->Option β} (h:x.bind k=some r) (ls:List Nat) (bs:List Root) (H:V->St)
  (h1:∀a,x=some a->Wp P N c E (jQ ls bs H (some a) (Tn (fun E'=>Wp P N y E' Q) Q))) (h2:∀a,k a=some r->Wp P N y (H a) Q):Wp P N (.seq c y) E Q:=
 Wp.seq (Gd h ls bs H h1 fun a ha E' hE=>AY hE (h2 a ha))
theorem sl1 {c y:Code} {id:Nat} {body:S->Option (S⊕V)} {s0:S} {k:V->Option β} (h:(Az body s0).bind k=some r) (ls:List Nat) (bs:List Root) (H:S->St) (ls2:List Nat) (bs2:List Root) (H2:V->St)
  (hb:∀s o,body s=some o->Wp P N c (H s) (lQ1 id ls bs H ls2 bs2 H2 o (Tn (fun E'=>Wp P N y E' Q) Q))) (h2:∀v,k v=some r->Wp P N y (H2 v) Q)
  (h0:bs.all (fun r=>r.mem&&(E.boxes r).isSome)=true:=by kernel_rfl) (hn:Ff E ls bs=H s0:=by kernel_rfl):Wp P N (.seq (.block id (.loop c)) y) E Q:=
 Wp.seq (BM h ls bs H ls2 bs2 H2 ⟨h0,hn⟩ hb fun v hv E' hE=>AY hE (h2 v hv))
theorem sl2 {c y:Code} {id:Nat} {body:S->Option (S⊕(V⊕W))} {s0:S} {k:V⊕W->Option β} (h:(Az body s0).bind k=some r) (ls:List Nat) (bs:List Root) (H:S->St) (ls2:List Nat) (bs2:List Root) (H2:V->St)
  (hb:∀s o,body s=some o->(∀w,o= .inr (.inr w)->k (.inr w)=some r)->Wp P N c (H s) (lQ id ls bs H ls2 bs2 H2 o (Tn (fun E'=>Wp P N y E' Q) Q))) (h2:∀v,k (.inl v)=some r->Wp P N y (H2 v) Q)
  (h0:bs.all (fun r=>r.mem&&(E.boxes r).isSome)=true:=by kernel_rfl) (hn:Ff E ls bs=H s0:=by kernel_rfl):Wp P N (.seq (.block id (.loop c)) y) E Q:=
 Wp.seq (ED h ls bs H ls2 bs2 H2 ⟨h0,hn⟩ hb fun v hv E' hE=>AY hE (h2 v hv))
theorem ws {y:Code} (h:RW P N ops 0 E (Tn (fun E'=>Wp P N y E' Q) Q)):Wp P N (.seq (.region id ops false) y) E Q:=Wp.seq (Au h)
theorem gw {y:Code} {ops2:Array Oper} (k m:Nat) (h:RW P N ops2 0 (ACu P N ops k m i E) (Tn (fun E'=>Wp P N y E' Q) Q)) (hk:(lC P N ops k m i E).isSome=true:=by kernel_rfl) (hn:Nat.ble ops.size (i+k)=true:=by kernel_rfl):RW P N ops i E (Tn (fun E'=>Wp P N (.seq (.region id ops2 false) y) E' Q) Q):=Ai k m (RW.nil (ws h) hn) hk
theorem gn (k m:Nat) (h:Q .normal (ACu P N ops k m i E)) (hk:(lC P N ops k m i E).isSome=true:=by kernel_rfl) (hn:Nat.ble ops.size (i+k)=true:=by kernel_rfl):RW P N ops i E Q:=Ai k m (RW.nil h hn) hk
theorem CS {f:α->List TV} {sz:Nat} {l:List α} {n:Int} {kk:α->Option β} (hf:∀x,(f x).length=sz) (h:(gi l n).bind kk=some r) (hk:∀x,gi l n=some x->kk x=some r->RW P N ops (i+1) (E.put (oA ops i).dst (mG E (oA ops i) (n.toNat*sz+0))) Q)
  (hc:zZ P E (oA ops i) sz=some (AN f l,n):=by kernel_rfl) (hq:qok P N ops i E=true:=by kernel_rfl):RW P N ops i E Q:=
 bd h fun x gx h=>RW.q (IR hf gx hc) (hk x gx h) hq
def sT (P:Program) (N:Nat) (ops:Array Oper) (ts dn:List Nat) (E:St) (i:Nat):Option St:=bif Nat.blt i ops.size&&G6 N (oA ops i)&&n9 ops ts dn i then
 (match Bm P ops E (oA ops i)with
 |some false=>some (E.put (oA ops i).dst (.tup []))
 |some true=>match Ik P E (oA ops i)with
  |some s=>some (E.put (oA ops i).dst s)
  |none=>xtE N E (oA ops i)
 |none=>none)else none
theorem tst {E':St} (hs:sT P N ops ts dn E i=some E') (h:KW P N ops ts (i::dn) E' Q):KW P N ops ts dn E Q:=by
 unfold sT at hs
 cases hb:(Nat.blt i ops.size&&G6 N (oA ops i)&&n9 ops ts dn i)with
 |false=>rw [hb]at hs;cases hs
 |true=>
  rw [hb]at hs;simp only [Af]at hs;split at hs
  ·rename_i hg
   injection hs with hs
   subst hs;exact ADF i h hg hb
  ·rename_i hg;simp only [An]at hb;have ho:UC P ops E i=true:=by simp only [UC,hb.1.1,hg,IQ]
   split at hs
   ·rename_i s a
    injection hs with hs
    subst hs;exact AC5 i a h (by rw [ho,hb.1.2,hb.2];rfl)
   ·exact Mq i (by rw [hs];exact h) (by rw [hs];rfl) (by rw [ho,hb.2];rfl)
  ·cases hs
def tY (P:Program) (N:Nat) (ops:Array Oper) (ts dn:List Nat) (E:St):List Nat->Option (Nat×St)
 |[]=>none
 |i::l=>match sT P N ops ts dn E i with
  |some E'=>some (i,E')
  |none=>tY P N ops ts dn E l
theorem mU:∀{l:List Nat} {E':St},tY P N ops ts dn E l=some (i,E')->sT P N ops ts dn E i=some E'
 |[],_,h=>by cases h
 |j::l,E',h=>by
  simp only [tY]at h;split at h
  ·rename_i E1 h1
   injection h with h
   injection h with h2 h3
   subst h2 h3;exact h1
  ·exact mU h
def ACi (P:Program) (N:Nat) (ops:Array Oper) (ts:List Nat) (mv:List Nat) (E:St) (i:Nat):Option St:=bif UC P ops E i&&(kp (oA ops i)||ts.contains i)then BX P N (mv.contains i) E (oA ops i)else none
def ABQ {A:Type} (f:A->Option (List St)):List A->Option (List St)
 |[]=>some []
 |x::l=>match f x,ABQ f l with
  |some a,some b=>some (a++b)
  |_,_=>none
theorem nH {A:Type} {f:A->Option (List St)}:∀{l:List A} {L:List St},ABQ f l=some L->∀x∈l,∃a,f x=some a/\∀E∈a,E∈L
 |[],_,_,x,hx=>by cases hx
 |y::l,L,h,x,hx=>by
  simp only [ABQ]at h;split at h
  ·rename_i a b h1 h2
   injection h with h
   subst h
   rcases B7.1 hx with rfl|hx
   ·exact⟨a,h1,fun E hE=>AD _ hE⟩
   ·obtain⟨a',h3,h4⟩:=nH h2 x hx;exact⟨a',h3,fun E hE=>AG _ (h4 E hE)⟩
  ·cases h
def vB (P:Program) (N:Nat) (ops:Array Oper) (ts mv:List Nat):Nat->List Nat->St->Option (List St)
 |0,_,_=>none
 |n+1,dn,E=>match Region.ready .any ops (lsd ops.size dn)with
  |[]=>some [E]
  |rs=>bif Nat.blt dn.length ops.size then(match tY P N ops ts dn E rs with
   |some (i,E')=>vB P N ops ts mv n (i::dn) E'
   |none=>ABQ (fun i=>match ACi P N ops ts mv E i with
    |some E'=>vB P N ops ts mv n (i::dn) E'
    |none=>none) rs)else none
theorem sG {mv:List Nat}:∀{n:Nat} {dn:List Nat} {E:St} {L:List St},vB P N ops ts mv n dn E=some L->(∀E'∈L,Q .normal E')->KW P N ops ts dn E Q
 |0,_,_,_,h,_=>by cases h
 |n+1,dn,E,L,h,hq=>by
  simp only [vB]at h;split at h
  ·rename_i hr
   injection h with h
   subst h;exact Bk (hq E (by simp)) (by rw [hr];rfl)
  ·rename_i b
   cases hb:Nat.blt dn.length ops.size with
   |false=>rw [hb]at h;cases h
   |true=>
    rw [hb]at h;simp only [Af]at h;split at h
    ·rename_i i E' hf;exact tst (mU hf) (sG h hq)
    ·refine KW.all _ (fun i hi=>?_) b (by simp only [wV,hb,iR,beq_self_eq_true]);obtain⟨a,h1,h2⟩:=nH h i hi;split at h1
     ·rename_i E' hs;unfold ACi at hs
      cases hc:(UC P ops E i&&(kp (oA ops i)||ts.contains i))with
      |false=>rw [hc]at hs;cases hs
      |true=>
       rw [hc]at hs;exact Ms hs (sG h1 fun E'' hE=>hq E'' (h2 E'' hE)) hc
     ·cases h1
def ACB (P:Program) (N:Nat) (ops:Array Oper) (ts mv dn:List Nat) (E:St) (bs:List Root):Bool:=match vB P N ops ts mv (ops.size+1) dn E with
 |some L=>L.all fun E'=>bs.all (fun r=>r.mem&&(E'.boxes r).isSome)
 |none=>false
def zD (P:Program) (N:Nat) (ops:Array Oper) (ts mv dn:List Nat) (E:St):List St:=(vB P N ops ts mv (ops.size+1) dn E).getD []
theorem ACA {mv:List Nat} {X:St} (hb:ACB P N ops ts mv dn E bs=true) (hn:(zD P N ops ts mv dn E).map (fun E'=>Ff E' ls bs)=(zD P N ops ts mv dn E).map fun _=>X) (hq:∀E',nt ls bs E' X->Q .normal E'):KW P N ops ts dn E Q:=by
 unfold ACB at hb;split at hb
 ·rename_i L hL
  refine sG hL fun E' hE=>hq E' ⟨HI.1 hb E' hE,?_⟩
  rw [zD,hL,Bb]at hn;have:∀(L:List St),L.map (fun E'=>Ff E' ls bs)=L.map (fun _=>X)->∀E'∈L,Ff E' ls bs=X:=by
   intro L
   induction L with
   |nil=>intro _ _ h;cases h
   |cons x L ih=>
    intro h E' hE;rw [BN,BN]at h
    injection h with h1 h2
    rcases B7.1 hE with rfl|hE
    ·exact h1
    ·exact ih h2 E' hE
  exact this L hn E' hE
 ·cases hb
theorem oj {a v:V} {H:V->St} {Q0:Exit->St->Prop} (mv:List Nat) (h:some v=some a) (hb:ACB P N ops ts mv dn E bs=true:=by kernel_rfl) (hn:(zD P N ops ts mv dn E).map (fun E'=>Ff E' ls bs)=(zD P N ops ts mv dn E).map (fun _=>H v):=by kernel_rfl):KW P N ops ts dn E (jQ ls bs H (some a) Q0):=
 ACA hb hn fun E' hE=>by
  injection h with h
  subst h;exact⟨_,rfl,hE⟩
end
end Go.TI
namespace Go.TI
open Go
theorem Nc {n:Int} (h1: -9223372036854775808<=n) (h2:n<=9223372036854775807):IntKind.i64.wrap n=n:=by rw [IntKind.wrap_i64];omega
theorem C5 {a b:Int} (h1: -9223372036854775808<=a+b) (h2:a+b<=9223372036854775807):ad a b=a+b:=Nc h1 h2
theorem C1 {a b:Int} (h1: -9223372036854775808<=a-b) (h2:a-b<=9223372036854775807):sb a b=a-b:=Nc h1 h2
theorem Nt {a b:Int} (h1: -9223372036854775808<=a*b) (h2:a*b<=9223372036854775807):ml a b=a*b:=Nc h1 h2
theorem ad1 {i:Nat} (h:i<9223372036854775807):ad (i:Int) 1=((i+1:Nat):Int):=by rw [C5]<;>omega
theorem JE (a b:ByteArray):seq a b=decide (a=b):=by
 unfold seq;rw [FC,Cw,AA];constructor
 ·intro h;rw [ByteArray.toList_eq,ByteArray.toList_eq]at h;cases a;cases b;simp only [ByteArray.mk.injEq];exact n7 h
 ·intro h;rw [h]
section
variable {α β σ S:Type}
theorem AH {l:List α} {i:Nat}:gi l (i:Int)=l[i]? :=by
 unfold gi;rw [Ay (by omega)];simp
theorem Ha {l:List α} {i:Nat} {x:α}:si l (i:Int) x=l.set i x:=by simp [si]
theorem AQ {l:List α} {i:Nat}:decide ((i:Int)<ln l)=decide (i<l.length):=by
 rw [FC,AA,AA];simp [ln]
def N3 (step:σ->Nat->α->σ⊕β) (fin:σ->β):List α->Nat->σ->β
 |[],_,s=>fin s
 |x::l,i,s=>match step s i x with
  | .inl s'=>N3 step fin l (i+1) s'
  | .inr b=>b
theorem aG {body:S->Option (S⊕β)} (mkS:σ->Int->S) (l:List α) (step:σ->Nat->α->σ⊕β) (fin:σ->β) (Inv:Nat->σ->Prop)
  (h1:∀s i x,l[i]?=some x->Inv i s->body (mkS s (i:Nat))=some (match step s i x with| .inl s'=> .inl (mkS s' ((i+1:Nat):Int))| .inr b=> .inr b)/\∀s',step s i x= .inl s'->Inv (i+1) s')
  (h2:∀s,Inv l.length s->body (mkS s (l.length:Nat))=some (.inr (fin s))):∀(n i:Nat) (s:σ),i+n=l.length->Inv i s->Az body (mkS s (i:Nat))=some (N3 step fin (l.drop i) i s)
 |0,i,s,hi,hs=>by
  have:i=l.length:=by omega
  subst this;rw [AB,h2 s hs,C8 (A4 _)];rfl
 |n+1,i,s,hi,hs=>by
  have a:i<l.length:=by omega
  obtain⟨h3,h4⟩:=h1 s i l[i] (Ab a) hs;rw [AB,h3,Bq a,N3]
  cases c:step s i l[i]with
  |inl s'=>simp only [];exact aG mkS l step fin Inv h1 h2 n (i+1) s' (by omega) (h4 s' c)
  |inr b=>rfl
theorem Oo {body:S->Option (S⊕β)} (mkS:σ->Int->S) (l:List α) (step:σ->Nat->α->σ⊕β) (fin:σ->β) (Inv:Nat->σ->Prop)
  (h1:∀s i x,l[i]?=some x->Inv i s->body (mkS s (i:Nat))=some (match step s i x with| .inl s'=> .inl (mkS s' ((i+1:Nat):Int))| .inr b=> .inr b)/\∀s',step s i x= .inl s'->Inv (i+1) s')
  (h2:∀s,Inv l.length s->body (mkS s (l.length:Nat))=some (.inr (fin s))) {s:σ} (hs:Inv 0 s):Az body (mkS s 0)=some (N3 step fin l 0 s):=
 aG mkS l step fin Inv h1 h2 l.length 0 s (by omega) hs
end
end Go.TI
namespace Go.TI
open Go
section
variable {α:Type}
theorem uA {β:Type} {body:Int->Option (Int⊕(Unit⊕Bool))} (a:List α) (b:List β) (p:α->β->Bool) (hl:a.length=b.length) (hM:a.length<=9223372036854775807)
  (h1:∀(i:Nat) x y,a[i]?=some x->b[i]?=some y->body (i:Nat)=some (bif p x y then .inl (((i+1:Nat)):Int)else .inr (.inr false))) (h2:body (a.length:Nat)=some (.inr (.inl ()))):
  Az body 0=some (bif(a.zip b).all (fun z=>p z.1 z.2)then .inl ()else .inr false):=by
 have hz:(a.zip b).length=a.length:=by simp [hl]
 have:=Oo (body:=body) (fun(_:Unit) i=>i) (a.zip b) (fun _ _ z=>bif p z.1 z.2 then .inl ()else .inr (.inr false)) (fun _=> .inl ()) (fun _ _=>True)
  (fun s i x hx _=>by
   refine⟨?_,fun _ _=>trivial⟩;obtain⟨x1,x2⟩:=x;have hx':=Ah.1 hx;obtain⟨d,hx'⟩:=hx';rw [List.getElem_zip]at hx'
   injection hx' with e1 e2
   rw [h1 i x1 x2 (by rw [<-e1];exact Ab _) (by rw [<-e2];exact Ab _)];simp only
   cases p x1 x2<;>rfl)
  (fun s _=>by rw [hz];exact h2) (s:=()) trivial
 rw [this];have c:∀(m:List (α×β)) (i:Nat),N3 (fun(_:Unit) _ z=>bif p z.1 z.2 then .inl ()else .inr (.inr false)) (fun _=>(.inl ():Unit⊕Bool)) m i ()=bif m.all (fun z=>p z.1 z.2)then .inl ()else .inr false:=by
  intro m
  induction m with
  |nil=>intro i;rfl
  |cons z m ih=>
   intro i;simp only [N3,Ep]
   cases p z.1 z.2 with
   |false=>rfl
   |true=>simp only [Af,CU];exact ih _
 rw [c]
theorem sP {p:α->α->Bool}:∀{a b:List α},(∀x∈a,∀y∈b,(p x y=true↔x=y))->a.length=b.length->((a.zip b).all (fun z=>p z.1 z.2)=true↔a=b)
 |[],[],_,_=>by simp
 |x::a,y::b,hp,h=>by
  have ih:=sP (p:=p) (a:=a) (b:=b) (fun x' hx y' hy=>hp x' (GN _ hx) y' (GN _ hy)) (by simpa using h);simp only [List.zip_cons_cons,Ep,An,ih,hp x Cx y Cx,OO]
 |[],_::_,_,h=>by simp at h
 |_::_,[],_,h=>by simp at h
end
end Go.TI
namespace Go.TI
open Go
section
variable {α β σ S:Type}
theorem RM {body:S->Option (S⊕β)} (mkS:σ->Int->S) (n:Nat) (Inv:Nat->σ->Prop) (Q:β->Prop)
  (h1:∀s i,i<n->Inv i s->(∃s',body (mkS s (i:Nat))=some (.inl (mkS s' ((i+1:Nat):Int)))/\Inv (i+1) s')\/∃b,body (mkS s (i:Nat))=some (.inr b)/\Q b)
  (h2:∀s,Inv n s->∃b,body (mkS s (n:Nat))=some (.inr b)/\Q b):∀(k i:Nat) (s:σ),i+k=n->Inv i s->∃b,Az body (mkS s (i:Nat))=some b/\Q b
 |0,i,s,hi,hs=>by
  have:i=n:=by omega
  subst this;obtain⟨b,h3,h4⟩:=h2 s hs;exact⟨b,by rw [AB,h3],h4⟩
 |k+1,i,s,hi,hs=>by
  rcases h1 s i (by omega) hs with⟨s',h3,h4⟩|⟨b,h3,h4⟩
  ·obtain⟨b,h5,h6⟩:=RM mkS n Inv Q h1 h2 k (i+1) s' (by omega) h4;exact⟨b,by rw [AB,h3];exact h5,h6⟩
  ·exact⟨b,by rw [AB,h3],h4⟩
theorem Br {body:S->Option (S⊕β)} (mkS:σ->Int->S) (n:Nat) (Inv:Nat->σ->Prop) (Q:β->Prop)
  (h1:∀s i,i<n->Inv i s->(∃s',body (mkS s (i:Nat))=some (.inl (mkS s' ((i+1:Nat):Int)))/\Inv (i+1) s')\/∃b,body (mkS s (i:Nat))=some (.inr b)/\Q b)
  (h2:∀s,Inv n s->∃b,body (mkS s (n:Nat))=some (.inr b)/\Q b) {s:σ} (hs:Inv 0 s):∃b,Az body (mkS s 0)=some b/\Q b:=
 RM mkS n Inv Q h1 h2 n 0 s (by omega) hs
theorem aH {body body':S->Option (S⊕β)} (mkS:σ->Int->S) (n:Nat) (Inv:Nat->σ->Prop) (Q:β->Prop)
  (h1:∀s i,i<n->Inv i s->body' (mkS s (i:Nat))=body (mkS s (i:Nat))/\((∃s',body (mkS s (i:Nat))=some (.inl (mkS s' ((i+1:Nat):Int)))/\Inv (i+1) s')\/∃b,body (mkS s (i:Nat))=some (.inr b)/\Q b))
  (h2:∀s,Inv n s->body' (mkS s (n:Nat))=body (mkS s (n:Nat))/\∃b,body (mkS s (n:Nat))=some (.inr b)/\Q b):∀(k i:Nat) (s:σ),i+k=n->Inv i s->∃b,Az body (mkS s (i:Nat))=some b/\Az body' (mkS s (i:Nat))=some b/\Q b
 |0,i,s,hi,hs=>by
  have:i=n:=by omega
  subst this;obtain⟨e,b,h3,h4⟩:=h2 s hs;exact⟨b,by rw [AB,h3],by rw [AB,e,h3],h4⟩
 |k+1,i,s,hi,hs=>by
  obtain⟨e,h⟩:=h1 s i (by omega) hs
  rcases h with⟨s',h3,h4⟩|⟨b,h3,h4⟩
  ·obtain⟨b,h5,h6,h7⟩:=aH mkS n Inv Q h1 h2 k (i+1) s' (by omega) h4;exact⟨b,by rw [AB,h3];exact h5,by rw [AB,e,h3];exact h6,h7⟩
  ·exact⟨b,by rw [AB,h3],by rw [AB,e,h3],h4⟩
theorem WN {body body':S->Option (S⊕β)} (mkS:σ->Int->S) (n:Nat) (Inv:Nat->σ->Prop) (Q:β->Prop)
  (h1:∀s i,i<n->Inv i s->body' (mkS s (i:Nat))=body (mkS s (i:Nat))/\((∃s',body (mkS s (i:Nat))=some (.inl (mkS s' ((i+1:Nat):Int)))/\Inv (i+1) s')\/∃b,body (mkS s (i:Nat))=some (.inr b)/\Q b))
  (h2:∀s,Inv n s->body' (mkS s (n:Nat))=body (mkS s (n:Nat))/\∃b,body (mkS s (n:Nat))=some (.inr b)/\Q b) {s:σ} (hs:Inv 0 s):∃b,Az body (mkS s 0)=some b/\Az body' (mkS s 0)=some b/\Q b:=
 aH mkS n Inv Q h1 h2 n 0 s (by omega) hs
theorem WO {body:Int->Option (Int⊕β)} (l:List α) (p:Nat->α->Bool) (no yes:β) (hM:l.length<=9223372036854775807)
  (h1:∀(i:Nat) x,l[i]?=some x->body (i:Nat)=some (bif p i x then .inl (((i+1:Nat)):Int)else .inr no)) (h2:body (l.length:Nat)=some (.inr yes)):
  Az body 0=some (bif l.zipIdx.all (fun z=>p z.2 z.1)then yes else no):=by
 have:=Oo (body:=body) (fun(_:Unit) i=>i) l (fun _ i x=>bif p i x then .inl ()else .inr no) (fun _=>yes) (fun _ _=>True)
  (fun s i x hx _=>by
   refine⟨?_,fun _ _=>trivial⟩;rw [h1 i x hx]
   cases p i x<;>rfl)
  (fun s _=>h2) (s:=()) trivial
 rw [this];have a:∀(m:List α) (i:Nat),N3 (fun(_:Unit) i x=>bif p i x then .inl ()else .inr no) (fun _=>yes) m i ()=bif(m.zipIdx i).all (fun z=>p z.2 z.1)then yes else no:=by
  intro m
  induction m with
  |nil=>intro i;rfl
  |cons z m ih=>
   intro i;simp only [N3,List.zipIdx_cons,Ep]
   cases p i z with
   |false=>rfl
   |true=>simp only [Af,CU];exact ih _
 rw [a]
theorem WM {γ:Type} {body:Int×List γ->Option ((Int×List γ)⊕List γ)} (l:List α) (f:α->γ)
  (h1:∀(i:Nat) x (out:List γ),l[i]?=some x->out.length=i->body ((i:Nat),out)=some (.inl (((i+1:Nat):Int),out++ [f x]))) (h2:∀out,body ((l.length:Nat),out)=some (.inr out)):
  Az body (0,[])=some (l.map f):=by
 have:=Oo (body:=body) (fun(s:List γ) i=>(i,s)) l (fun out _ x=>(.inl (out++ [f x]):List γ⊕List γ)) (fun out=>out) (fun i out=>out.length=i)
  (fun s i x hx hi=>by
   refine⟨h1 i x s hx hi,fun s' hs=>?_⟩
   injection hs with hs
   rw [<-hs,Ag,Al,hi])
  (fun s _=>h2 s) (s:=[]) rfl
 rw [this];have a:∀(m:List α) (i:Nat) (out:List γ),N3 (fun out _ x=>(.inl (out++ [f x]):List γ⊕List γ)) (fun out=>out) m i out=out++m.map f:=by
  intro m
  induction m with
  |nil=>intro i out;simp [N3]
  |cons z m ih=>
   intro i out;simp only [N3,ih,BN,Ap,Ce]
 rw [a,A7]
theorem qP {γ:Type} {body:Int×List γ->Option ((Int×List γ)⊕List γ)} (n:Nat) (f:Nat->γ)
  (h1:∀(i:Nat) (out:List γ),i<n->out.length=i->body ((i:Nat),out)=some (.inl (((i+1:Nat):Int),out++ [f i]))) (h2:∀out,body ((n:Nat),out)=some (.inr out)):
  Az body (0,[])=some ((List.range n).map f):=
 WM (List.range n) f (fun i x out hx ho=>by
  obtain⟨a,hx⟩:=Ah.1 hx;rw [List.getElem_range]at hx;rw [<-hx]
  exact h1 i out (by simpa using a) ho) (fun out=>by rw [Ch];exact h2 out)
theorem WJ {by_:Nat} {z:α} {n:Nat} (h:by_*n<=281474976710656) (h2:n<=9223372036854775807):mk by_ z (n:Int)=some (List.replicate n z):=by
 unfold mk;have:((by_*n:Nat):Int)<=281474976710656:=by omega
 rw [Int.natCast_mul]at this;rw [Ay ⟨by omega,this,by omega⟩,B6]
theorem CF {by_:Nat} {l m:List α} (h:(l.length+m.length)*by_<=140737488355328):ap by_ l m=some (l++m):=Ay h
theorem Pz {l:List α} {i:Int} (h1:0<=i) (h2:i<l.length):gi l i=some (l[i.toNat]'(by omega)):=by
 unfold gi;rw [Ay h1];exact Ab _
theorem Cq {l:List α}:ln l=(l.length:Int):=rfl
end
end Go.TI
