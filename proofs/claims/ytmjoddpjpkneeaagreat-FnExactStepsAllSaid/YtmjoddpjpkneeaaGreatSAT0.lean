/- What walks of Go code need. No condition. -/
import Derived.Calls
import Derived.WalkKit
import Derived.Laws.AppendOwn
import Derived.Laws.OwnMore
import Derived.OrdersHeld
import Derived.Laws.Cells
import Derived.Laws.Entries
import Derived.ChangeKeysEq
import Derived.Laws.BytesArg
import Derived.Laws.MakeOwn
set_option linter.unusedSimpArgs false
namespace Go.TI
theorem Aa:type_of% @Option.bind_some:=@Option.bind_some
theorem Ab:type_of% @List.getElem?_eq_getElem:=@List.getElem?_eq_getElem
theorem Ac:type_of% @Option.bind_eq_some_iff:=@Option.bind_eq_some_iff
theorem Ad:type_of% @List.getElem?_eq_some_iff:=@List.getElem?_eq_some_iff
theorem Ae:type_of% @cond_false:=@cond_false
theorem Af:type_of% @Bool.and_eq_true:=@Bool.and_eq_true
theorem Ag:type_of% @decide_eq_true:=@decide_eq_true
theorem Ap:type_of% @Option.some.injEq:=@Option.some.injEq
theorem Aq:type_of% @decide_eq_false:=@decide_eq_false
theorem Ar:type_of% @List.nil_append:=@List.nil_append
theorem As:type_of% @cond_true:=@cond_true
theorem Au:type_of% @List.mem_append:=@List.mem_append
theorem Aw:type_of% @Nat.lt_of_lt_of_le:=@Nat.lt_of_lt_of_le
theorem Ax:type_of% @List.take_succ_eq_append_getElem:=@List.take_succ_eq_append_getElem
theorem A3:type_of% @List.mem_of_getElem?:=@List.mem_of_getElem?
theorem A6:type_of% @List.append_nil:=@List.append_nil
theorem A7:type_of% @Option.map_eq_some_iff:=@Option.map_eq_some_iff
theorem A8:type_of% @Nat.le_refl:=@Nat.le_refl
theorem A9:type_of% @Bool.not_true:=@Bool.not_true
theorem AE:type_of% @List.mem_map:=@List.mem_map
theorem AG:type_of% @List.length_append:=@List.length_append
theorem AI:type_of% @Nat.eq_of_beq_eq_true:=@Nat.eq_of_beq_eq_true
theorem AM:type_of% @List.getElem_of_mem:=@List.getElem_of_mem
theorem AN:type_of% @List.eq_nil_of_length_eq_zero:=@List.eq_nil_of_length_eq_zero
theorem AP:type_of% @List.pairwise_append:=@List.pairwise_append
theorem AX:type_of% @List.getElem_mem:=@List.getElem_mem
theorem AY:type_of% @List.take_of_length_le:=@List.take_of_length_le
theorem Bj:type_of% @List.getElem?_append_right:=@List.getElem?_append_right
theorem Bk:type_of% @List.length_cons:=@List.length_cons
theorem Bm:type_of% @if_neg:=@if_neg
theorem Bp:type_of% @List.drop_eq_getElem_cons:=@List.drop_eq_getElem_cons
theorem Bt:type_of% @List.mem_append_left:=@List.mem_append_left
theorem Bw:type_of% @if_pos:=@if_pos
theorem By:type_of% @if_true:=@if_true
theorem Bz:type_of% @Nat.blt_eq:=@Nat.blt_eq
theorem B4:type_of% @Nat.mul_le_mul_right:=@Nat.mul_le_mul_right
theorem B5:type_of% @decide_eq_true_eq:=@decide_eq_true_eq
theorem B6:type_of% @List.nodup_cons:=@List.nodup_cons
theorem B7:type_of% @List.ext_getElem?:=@List.ext_getElem?
theorem BB:type_of% @List.take_append_drop:=@List.take_append_drop
theorem BC:type_of% @List.mem_append_right:=@List.mem_append_right
theorem BE:type_of% @Int.eq_ofNat_of_zero_le:=@Int.eq_ofNat_of_zero_le
theorem BG:type_of% @List.nodup_append:=@List.nodup_append
theorem BM:type_of% @List.length_map:=@List.length_map
theorem BN:type_of% @List.nodup_nil:=@List.nodup_nil
theorem BQ:type_of% @List.map_cons:=@List.map_cons
theorem Ce:type_of% @congrArg:=@congrArg
theorem Cn:type_of% @List.pairwise_cons:=@List.pairwise_cons
theorem Co:type_of% @List.filter_append:=@List.filter_append
theorem Cw:type_of% @List.append_assoc:=@List.append_assoc
theorem Cx:type_of% @Int.toNat_natCast:=@Int.toNat_natCast
theorem CB:type_of% @List.cons_append:=@List.cons_append
theorem CD:type_of% @Array.getD_eq_getD_getElem?:=@Array.getD_eq_getD_getElem?
theorem CP:type_of% @Int.toNat_of_nonneg:=@Int.toNat_of_nonneg
theorem CS:type_of% @List.getElem?_append_left:=@List.getElem?_append_left
theorem CY:type_of% @List.length_singleton:=@List.length_singleton
theorem DD:type_of% @Sum.elim_inl:=@Sum.elim_inl
theorem DG:type_of% @List.drop_eq_nil_of_le:=@List.drop_eq_nil_of_le
theorem DJ:type_of% @Nat.lt_irrefl:=@Nat.lt_irrefl
theorem DX:type_of% @List.any_eq_true:=@List.any_eq_true
theorem Ec:type_of% @List.mem_cons_self:=@List.mem_cons_self
theorem E0:type_of% @List.mem_or_eq_of_mem_set:=@List.mem_or_eq_of_mem_set
theorem EE:type_of% @Nat.lt_or_ge:=@Nat.lt_or_ge
theorem EF:type_of% @List.take_add_one:=@List.take_add_one
theorem EG:type_of% @Bool.not_eq_true':=@Bool.not_eq_true'
theorem EM:type_of% @List.sum_cons:=@List.sum_cons
theorem EN:type_of% @List.mem_cons:=@List.mem_cons
theorem EO:type_of% @List.all_cons:=@List.all_cons
theorem Fv:type_of% @List.map_congr_left:=@List.map_congr_left
theorem Gl:type_of% @List.filter_eq_nil_iff:=@List.filter_eq_nil_iff
theorem Gm:type_of% @List.append_eq_nil_iff:=@List.append_eq_nil_iff
theorem Gn:type_of% @Array.getElem?_eq_none:=@Array.getElem?_eq_none
theorem Gz:type_of% @List.range_succ:=@List.range_succ
theorem G5:type_of% @Bool.or_eq_true:=@Bool.or_eq_true
theorem GM:type_of% @bne_self_eq_false:=@bne_self_eq_false
theorem GN:type_of% @List.length_range:=@List.length_range
theorem Hs:type_of% @List.drop_drop:=@List.drop_drop
theorem Ht:type_of% @Bool.not_false:=@Bool.not_false
theorem Hu:type_of% @Array.getElem?_append_left:=@Array.getElem?_append_left
theorem HI:type_of% @Option.getD_some:=@Option.getD_some
theorem HJ:type_of% @Ne.symm:=@Ne.symm
theorem HK:type_of% @Nat.zero_add:=@Nat.zero_add
theorem HL:type_of% @Nat.succ_mul:=@Nat.succ_mul
theorem HM:type_of% @List.map_map:=@List.map_map
theorem Ix:type_of% @List.replicate_succ:=@List.replicate_succ
theorem I4:type_of% @Option.isSome_iff_exists:=@Option.isSome_iff_exists
theorem IT:type_of% @List.mem_singleton:=@List.mem_singleton
theorem Je:type_of% @Nat.zero_le:=@Nat.zero_le
theorem Jf:type_of% @List.filter_cons_of_pos:=@List.filter_cons_of_pos
theorem JA:type_of% @Nat.le_trans:=@Nat.le_trans
theorem JB:type_of% @List.length_pos_of_mem:=@List.length_pos_of_mem
theorem LS:type_of% @Option.map_some:=@Option.map_some
theorem LT:type_of% @List.mem_filter:=@List.mem_filter
theorem LU:type_of% @List.map_const':=@List.map_const'
theorem LV:type_of% @List.map_append:=@List.map_append
theorem LX:type_of% @List.length_pos_iff:=@List.length_pos_iff
theorem NT:type_of% @and_true:=@and_true
theorem NU:type_of% @List.getElem?_drop:=@List.getElem?_drop
theorem NV:type_of% @List.filter_filter:=@List.filter_filter
theorem NW:type_of% @Bool.false_eq_true:=@Bool.false_eq_true
theorem OW:type_of% @List.getElem?_map:=@List.getElem?_map
theorem QK:type_of% @List.zipIdx_cons:=@List.zipIdx_cons
theorem QL:type_of% @List.take_length:=@List.take_length
theorem QM:type_of% @List.map_snd_zip:=@List.map_snd_zip
theorem QQ:type_of% @Array.toList_map:=@Array.toList_map
theorem R5:type_of% @decide_false:=@decide_false
theorem RO:type_of% @List.length_nil:=@List.length_nil
theorem bI:type_of% @Nat.add_zero:=@Nat.add_zero
theorem mG:type_of% @if_false:=@if_false
theorem mR:type_of% @beq_iff_eq:=@beq_iff_eq
theorem m7:type_of% @Nat.ble_eq:=@Nat.ble_eq
end Go.TI
set_option linter.unusedVariables false
namespace Go.TI
open Go
inductive Root where
 |slot (n:Nat)
 |box (n:Nat)
 |ext (n:Nat)
 |hand
 deriving DecidableEq
inductive TV where
 |int (k:IntKind) (n:Int)
 |bool (b:Bool)
 |str (s:ByteArray)
 |fn (f:Fn) (ta cap:Array Value)
 |adr (ad:Addr)
 |hdr (ad:Addr) (n c:Nat)
 |sl (own:Bool) (e sz:Nat) (cells:List TV)
 |view (r:Root) (ver:Nat) (q:List Nat) (j:Nat)
 |ptr (r:Root) (ver:Nat) (q:List Nat) (j:Nat)
 |junk
inductive SV where
 |one (t:TV)
 |agg (cells:List TV)
 |tup (vs:List SV)
structure KC where
 B:List Nat
 I:World->Prop
 st:∀w w',I w->(∀b∈B,w'.heap[b]?=w.heap[b]?)->I w'
 rd:Addr->Option Value:=λ_=>Option.none
 rdI:∀w ad v,I w->rd ad=some v->w.cell? ad=some v:=by intro w ad v _ h;cases h
 pin:Option (Nat×Option Value):=Option.none
def KC.none:KC where
 B:=[]
 I:=λ_=>True
 st:=λ_ _ _ _=>trivial
structure St where
 slots:Nat->SV
 boxes:Root->Option (List TV)
 ver:Root->Nat
 gen:Root->Nat
 amb:KC:=KC.none
 fz:Option Nat:=Option.none
def St.stamp (E:St) (r:Root) (q:List Nat):Nat:=match q with
 |[]=>E.gen r
 |_=>E.ver r
def SV.cells:SV->List TV
 | .one t=>[t]
 | .agg cs=>cs
 | .tup _=>[]
variable {w w' w2 w1 w3:World} {E E' E1:St} {a a':Act} {blk blk':Root->Nat} {FA UA q U F:List Nat} {FS US:Root->List Nat} {N d j sz n e c i:Nat} {r:Root} {P:Program} {v vx:Value} {s:SV} {t:TypeId} {o:Oper} {x:Operand} {vs:List Value} {α β:Type} {z y:TV} {xs:List TV} {op:BinOp} {b:Bool} {lo hi:Option Operand} {f:List TV->List TV}
def Bi [DecidableEq α] (f:α->β) (a:α) (b:β):α->β:=λx=>if x=a then b else f x
def St.root (E:St):Root->Option (List TV)
 | .slot n=>some (E.slots n).cells
 |r=>E.boxes r
def SV.withCells:SV->List TV->SV
 | .one _,[t]=> .one t
 | .agg _,cs=> .agg cs
 |s,_=>s
def St.setRoot (E:St) (r:Root) (cs:List TV):St:=match r with
 | .slot n=>{E with slots:=Bi E.slots n ((E.slots n).withCells cs)}
 |r=>{E with boxes:=Bi E.boxes r (some cs)}
def St.bump (E:St) (r:Root):St:={E with ver:=Bi E.ver r (E.ver r+1)}
theorem Cr {cs:List TV}:(E.setRoot r cs).amb=E.amb:=by cases r<;>rfl
theorem DA {cs:List TV}:(E.setRoot r cs).fz=E.fz:=by cases r<;>rfl
theorem IR:(E.bump r).fz=E.fz:=rfl
theorem Gj:(E.bump r).amb=E.amb:=rfl
def Ba:List TV->List Nat->Option (List TV)
 |cs,[]=>some cs
 |cs,c::q=>match cs[c]? with
  |some (.sl _ _ _ cells)=>Ba cells q
  |_=>none
def Hq:List TV->List Nat->Bool
 |_,[]=>true
 |cs,c::q=>match cs[c]? with
  |some (.sl o _ _ cells)=>o&&Hq cells q
  |_=>false
def BT:List TV->List Nat->(List TV->List TV)->List TV
 |cs,[],f=>f cs
 |cs,c::q,f=>match cs[c]? with
  |some (.sl o e sz cells)=>cs.set c (.sl o e sz (BT cells q f))
  |_=>cs
def setRow (cs:List α) (j:Nat) (xs:List α):List α:=cs.take j++xs++cs.drop (j+xs.length)
def TV.isSl:TV->Bool
 | .sl .. =>true
 |_=>false
def TV.isJunk:TV->Bool
 | .junk=>true
 |_=>false
mutual
def JO:TV->TV
 | .sl _ e sz cells=> .sl false e sz (Al cells)
 |t=>t
def Al:List TV->List TV
 |[]=>[]
 |t::ts=>JO t::Al ts
end
mutual
def AA:TV->Bool
 | .sl o _ _ cells=>!o||Ak cells
 | .int .. | .bool _| .str _| .fn .. | .adr .. | .hdr .. =>false
 |_=>true
def Ak:List TV->Bool
 |[]=>false
 |t::ts=>AA t||Ak ts
end
def oN (E:St) (r:Root) (q:List Nat) (c:Nat) (t:TV):TV:=match t with
 | .sl true _ _ _=> .view r (E.ver r) q c
 |t=>t
def H4 (E:St) (r:Root) (q:List Nat):Nat->List TV->List TV
 |_,[]=>[]
 |c,t::ts=>oN E r q c t::H4 E r q (c+1) ts
def NH (P:Program) (t:TypeId):Value->Option TV
 | .int k n=>some (.int k n)
 | .bool b=>some (.bool b)
 | .string s=>some (.str s)
 | .slice none 0 0=>match P.underlying t with
  |some (.slice e)=>some (.sl true e (P.cellsOf e) [])
  |_=>none
 |_=>none
def St.val (P:Program) (E:St) (t:TypeId):Operand->Option SV
 | .tmp n=>match E.slots n with
  | .one x=>some (.one (oN E (.slot n) [] 0 x))
  | .agg cs=>some (.agg (H4 E (.slot n) [] 0 cs))
  | .tup _=>none
 | .const v=>(NH P t v).map .one
 |_=>none
def iZ (f:Option Nat) (d:Nat):Option Nat:=match f with
 |some n=>bif Nat.beq (n/2) d then none else some n
 |none=>none
theorem SU {f:Option Nat} (h:iZ f d=some n):f=some n/\n/2≠d:=by
 unfold iZ at h
 cases f with
 |none=>cases h
 |some m=>
  simp only at h
  cases hb:Nat.beq (m/2) d with
  |true=>grind
  |false=>
   rw[hb]at h
   injection h with h
   subst h;exact⟨rfl,λe=>by simp_all⟩
def St.put (E:St) (d:Option Tmp) (s:SV):St:=match d with
 |some d=>{E with slots:=Bi E.slots d s,ver:=Bi E.ver (.slot d)<|E.ver (.slot d)+1,fz:=iZ E.fz d}
 |none=>E
open Go.RowKit
def Bc (v:Value):List Nat:=v.ownBlock.toList
def J4 (w:World) (v:Value) (vs:List Value):Prop:=∀i u,vs[i]?=some u->∃ad n c,v= .slice (some ad) n c/\w.cell? (ad.add i)=some u
mutual
def BU (w:World):TV->Value->List Nat->List Nat->Prop
 | .int k n,v,F,U=>v= .int k n/\F=[]/\U=[]
 | .bool b,v,F,U=>v= .bool b/\F=[]/\U=[]
 | .str s,v,F,U=>v= .string s/\F=[]/\U=[]
 | .fn f ta cap,v,F,U=>v= .func f ta cap/\F=[]/\U=[]
 | .adr ad,v,F,U=>v= .pointer (some ad)/\F=[]/\U=[]
 | .hdr ad n c,v,F,U=>v= .slice (some ad) n c/\F=[]/\U=[]
 | .sl true e sz cells,v,F,U=>∃n vs F',w.ownsRow 0 e sz v n vs/\AO w cells vs F' U/\F=Bc v++F'
 | .sl false _ sz cells,v,F,U=>∃A n c vs U' B,v= .slice A n c/\n<=c/\vs.length=n*sz/\J4 w v vs/\AO w cells vs [] U'/\F=[]/\(B=Bc v\/vs=[]/\B=[])/\U=B++U'
 | .junk,v,F,U=>v.oneCell'=true/\F=[]/\U=[]
 |_,_,_,_=>False
def AO (w:World):List TV->List Value->List Nat->List Nat->Prop
 |[],vs,F,U=>vs=[]/\F=[]/\U=[]
 |t::ts,vs,F,U=>∃v a F1 F2 U1 U2,vs=v::a/\F=F1++F2/\U=U1++U2/\BU w t v F1 U1/\AO w ts a F2 U2
end
theorem BF:∀{ts:List TV} {vs F U},AO w ts vs F U->vs.length=ts.length
 |[],vs,F,U,h=>by simp[h.1]
 |t::ts,vs,F,U,h=>by
  obtain⟨v,a,F1,F2,U1,U2,rfl,_,_,_,h2⟩:=h;simp[BF h2]
theorem Y9 {a:Addr} (h:w'.heap[a.block]?=w.heap[a.block]?):w'.cell? a=w.cell? a:=World.cell?_of_block h
theorem Jd (a:Addr) (i:Nat):(a.add i).block=a.block:=by grind [Addr.add]
theorem J4.move (h:J4 w v vs) (hb:∀b∈Bc v,w'.heap[b]?=w.heap[b]?):J4 w' v vs:=by
 intro i u hi;obtain⟨ad,n,c,rfl,hc⟩:=h i u hi
 grind [Y9,Jd,Bc,Value.ownBlock]
theorem J4.moveB {B:List Nat} (h:J4 w v vs) (hB:B=Bc v\/vs=[]/\B=[]) (hb:∀b∈B,w'.heap[b]?=w.heap[b]?):J4 w' v vs:=by
 rcases hB with rfl|⟨rfl,_⟩
 ·exact h.move hb
 intro i u hi;simp at hi
mutual
theorem Gd {w w':World}:∀{t:TV} {v F U},BU w t v F U->(∀b∈F,w'.heap[b]?=w.heap[b]?)->(∀b∈U,w'.heap[b]?=w.heap[b]?)->BU w' t v F U
 | .int ..,v,F,U,h,_,_=>by grind [BU]
 | .bool _,v,F,U,h,_,_=>by grind [BU]
 | .str _,v,F,U,h,_,_=>by grind [BU]
 | .fn ..,v,F,U,h,_,_=>by grind [BU]
 | .adr ..,v,F,U,h,_,_=>by grind [BU]
 | .hdr ..,v,F,U,h,_,_=>by grind [BU]
 | .junk,v,F,U,h,_,_=>by grind [BU]
 | .view ..,v,F,U,h,_,_=>by grind [BU]
 | .ptr ..,v,F,U,h,_,_=>by grind [BU]
 | .sl true e sz cells,v,F,U,h,hF,hU=>by
  obtain⟨n,vs,F',ho,hr,rfl⟩:=h;refine⟨n,vs,F',?_,CA hr (λb hb=>hF b<|BC _ hb) hU,rfl⟩;refine⟨ho.1,?_⟩
  rcases ho.2 with h0|⟨g,cap,d,rfl,hg,hh,r⟩
  ·exact .inl h0
  grind [Bc,Value.ownBlock]
 | .sl false e sz cells,v,F,U,h,hF,hU=>by
  obtain⟨A,n,c,vs,U',B,rfl,hn,hl,a,hr,rfl,hB,rfl⟩:=h;exact⟨A,n,c,vs,U',B,rfl,hn,hl,a.moveB hB λb hb=>hU b<|Bt _ hb,CA hr (by simp) λb hb=>hU b<|BC _ hb,rfl,hB,rfl⟩
theorem CA {w w':World}:∀{ts:List TV} {vs F U},AO w ts vs F U->(∀b∈F,w'.heap[b]?=w.heap[b]?)->(∀b∈U,w'.heap[b]?=w.heap[b]?)->AO w' ts vs F U
 |[],vs,F,U,h,_,_=>by grind [AO]
 |t::ts,vs,F,U,h,hF,hU=>by
  obtain⟨v,a,F1,F2,U1,U2,rfl,rfl,rfl,h1,h2⟩:=h
  exact⟨v,a,F1,F2,U1,U2,rfl,rfl,rfl,
   Gd h1 (λb hb=>hF b<|Bt _ hb) (λb hb=>hU b<|Bt _ hb),
   CA h2 (λb hb=>hF b<|BC _ hb) (λb hb=>hU b<|BC _ hb)⟩
end
theorem HB (h:w.ownsRow 0 e sz v n vs):J4 w v vs:=by
 intro i u hi
 rcases h.2 with⟨_,h0⟩|⟨g,cap,a,rfl,_⟩
 ·have:=h.1
  grind
 exact⟨_,_,_,rfl,h.cells rfl i u hi⟩
mutual
theorem N1 {w:World}:∀{t:TV} {v F U},BU w t v F U->∃U',BU w (JO t) v [] U'/\∀b∈U',b∈F\/b∈U
 | .int ..,v,F,U,h=>by grind [BU,JO]
 | .bool _,v,F,U,h=>by grind [BU,JO]
 | .str _,v,F,U,h=>by grind [BU,JO]
 | .fn ..,v,F,U,h=>by grind [BU,JO]
 | .adr ..,v,F,U,h=>by grind [BU,JO]
 | .hdr ..,v,F,U,h=>by grind [BU,JO]
 | .junk,v,F,U,h=>by grind [BU,JO]
 | .view ..,v,F,U,h=>by grind [BU]
 | .ptr ..,v,F,U,h=>by grind [BU]
 | .sl true e sz cells,v,F,U,h=>by
  obtain⟨n,vs,F',ho,hr,rfl⟩:=h;obtain⟨U',hr',hU'⟩:=OC hr;have a:=HB ho;have hs:∃A c,v= .slice A n c/\n<=c:=by
   rcases ho.2 with⟨rfl,rfl⟩|⟨g,cap,d,rfl,_,_,hc,_⟩
   ·grind
   grind
  obtain⟨A,c,rfl,hc⟩:=hs;refine⟨_,⟨A,n,c,vs,U',_,rfl,hc,ho.1,a,hr',by simp,.inl rfl,rfl⟩,λb hb=>?_⟩
  grind
 | .sl false e sz cells,v,F,U,h=>by
  obtain⟨A,n,c,vs,U',B,rfl,hn,hl,a,hr,rfl,hB,rfl⟩:=h;obtain⟨U2,hr',hU'⟩:=OC hr;refine⟨_,⟨A,n,c,vs,U2,B,rfl,hn,hl,a,hr',by simp,hB,rfl⟩,λb hb=>?_⟩
  grind
theorem OC {w:World}:∀{ts:List TV} {vs F U},AO w ts vs F U->∃U',AO w (Al ts) vs [] U'/\∀b∈U',b∈F\/b∈U
 |[],vs,F,U,h=>by grind [AO,Al]
 |t::ts,vs,F,U,h=>by
  simp only[AO,Al]at h⊢;obtain⟨v,a,F1,F2,U1,U2,rfl,rfl,rfl,h1,h2⟩:=h;obtain⟨Ua,ha,c⟩:=N1 h1;obtain⟨Ub,hb,d⟩:=OC h2
  grind
end
def Ey (w:World):Addr->List Nat->Option Addr
 |ad,[]=>some ad
 |ad,c::q=>match w.cell? (ad.add c)with
  |some (.slice (some ad') _ _)=>Ey w ad' q
  |_=>none
def Iw (w:World) (v:Value) (q:List Nat):Option Addr:=match v with
 | .slice (some ad) _ _=>Ey w ad q
 |_=>none
theorem Ib {l:List α} {a:α} (h:l[i]?=some a):l.set i a=l:=by
 apply B7
 grind
theorem Kk {ad:Addr} (h:w.cell? (ad.add c)=some v):Ey w ad (c::q)=Iw w v q:=by simp_all [Ey,Iw];grind
theorem DP:∀{ts:List TV} {vs F U} (c:Nat) {t:TV},AO w ts vs F U->ts[c]?=some t->
  ∃v A B C D F1 U1,vs[c]?=some v/\BU w t v F1 U1/\F=A++F1++B/\U=C++U1++D/\
   ∀w' t' v' F1' U1',BU w' t' v' F1' U1'->(∀b∈A++B,w'.heap[b]?=w.heap[b]?)->(∀b∈C++D,w'.heap[b]?=w.heap[b]?)->
    AO w' (ts.set c t') (vs.set c v') (A++F1'++B) (C++U1'++D)
 |[],vs,F,U,c,t,h,hc=>by simp at hc
 |t0::ts,vs,F,U,0,t,h,hc=>by
  obtain⟨v,a,F1,F2,U1,U2,rfl,rfl,rfl,h1,h2⟩:=h;simp at hc;subst hc;refine⟨v,[],F2,[],U2,F1,U1,rfl,h1,rfl,rfl,λw' t' v' F1' U1' hr hA hC=>?_⟩;exact⟨v',a,F1',F2,U1',U2,rfl,rfl,rfl,hr,CA h2 (by simpa using hA)<|by simpa using hC⟩
 |t0::ts,vs,F,U,c+1,t,h,hc=>by
  obtain⟨v,a,F1,F2,U1,U2,rfl,rfl,rfl,h1,h2⟩:=h;simp at hc;obtain⟨u,A,B,C,D,G,V,hu,hr,rfl,rfl,hk⟩:=DP c h2 hc;refine⟨u,F1++A,B,U1++C,D,G,V,by simpa using hu,hr,by simp,by simp,λw' t' v' F1' U1' hr' hA hC=>?_⟩;refine⟨v,a.set c v',F1,A++F1'++B,U1,C++U1'++D,rfl,by simp,by simp,Gd h1 ?_ ?_,hk w' t' v' F1' U1' hr' ?_ ?_⟩
  ·grind
  ·grind
  ·grind
  grind
theorem Td:∀(q:List Nat) {cs:List TV} {vs F U} {d:List TV},AO w cs vs F U->Ba cs q=some d->
  ∃rvs F1 U1,AO w d rvs F1 U1/\(∀b∈F1,b∈F)/\(∀b∈U1,b∈U)/\
   match q with
   |[]=>rvs=vs
   |c::q=>∃v,vs[c]?=some v/\∀j u,rvs[j]?=some u->∃ad,∀w2:World,(∀b∈F,w2.heap[b]?=w.heap[b]?)->(∀b∈U,w2.heap[b]?=w.heap[b]?)->Iw w2 v q=some ad/\w2.cell? (ad.add j)=some u
 |[],cs,vs,F,U,d,h,hc=>by grind [Ba]
 |c::q,cs,vs,F,U,d,h,hc=>by
  simp only[Ba]at hc;split at hc
  ·rename_i o e sz i l;obtain⟨v,A,B,C,D,F1,U1,hv,hr,rfl,rfl,_⟩:=DP c h l;have m:∃vs1 F2 U2,AO w i vs1 F2 U2/\J4 w v vs1/\(∀b∈F2,b∈F1)/\(∀b∈U2,b∈U1)/\(∃B,(B=Bc v\/vs1=[]/\B=[])/\∀b∈B,b∈F1\/b∈U1):=by
    cases o
    ·obtain⟨A,n,c,vs1,U',B0,rfl,hn,hl,f,hr,rfl,k,rfl⟩:=hr;exact⟨vs1,[],U',hr,f,by simp,λb hb=>BC _ hb,B0,k,λb hb=> .inr (Bt _ hb)⟩
    obtain⟨n,vs1,F',ho,hr,rfl⟩:=hr;exact⟨vs1,F',_,hr,HB ho,λb hb=>BC _ hb,λ_ hb=>hb,_,.inl rfl,λb hb=> .inl (Bt _ hb)⟩
   obtain⟨vs1,F2,U2,p,f,r,s,B0,k,x⟩:=m;obtain⟨rvs,F3,U3,t,y,z,hb⟩:=Td q p hc;refine⟨rvs,F3,U3,t,λb hb=>by grind,λb hb=>by grind,v,hv,λj u hj=>?_⟩
   have g:∀w2:World,(∀b∈A++F1++B,w2.heap[b]?=w.heap[b]?)->(∀b∈C++U1++D,w2.heap[b]?=w.heap[b]?)->J4 w2 v vs1:=λw2 hA hC=>f.moveB k λb hb=>by grind
   match q,hb with
   |[],hb=>
    subst hb;obtain⟨ad,n,c,rfl,a⟩:=f j u hj;refine⟨ad,λw2 hA hC=>⟨rfl,?_⟩⟩;obtain⟨ad',n',c',he,hcell'⟩:=g w2 hA hC j u hj
    grind
   |c'::q',hb=>
    obtain⟨v',hv',hb⟩:=hb;obtain⟨ad,hk⟩:=hb j u hj;refine⟨ad,λw2 hA hC=>?_⟩;obtain⟨h0,a⟩:=hk w2 (λb hb=>hA b<|by simp[r b hb]) (λb hb=>hC b<|by simp[s b hb]);obtain⟨ad0,n,c,rfl,h1⟩:=g w2 hA hC c' v' hv';refine⟨?_,a⟩;show Ey w2 ad0 (c'::q')=some ad
    grind [Kk]
  cases hc
theorem V7:∀(q:List Nat) {cs:List TV} {vs F U} {i:List TV} (c:Nat),AO w cs vs F U->Hq cs (c::q)=true->Ba cs (c::q)=some i->
  ∃v hv n e sz rvs A B C D F1 U1,vs[c]?=some hv/\w.ownsRow 0 e sz v n rvs/\AO w i rvs F1 U1/\F=A++(Bc v++F1)++B/\U=C++U1++D/\
   (∀ad m k,v= .slice (some ad) m k->Iw w hv q=some ad)/\
   ∀w' row' rvs' F1' U1',w'.ownsRow 0 e sz v n rvs'->AO w' row' rvs' F1' U1'->(∀b∈A++B,w'.heap[b]?=w.heap[b]?)->(∀b∈C++D,w'.heap[b]?=w.heap[b]?)->
    ∀f:List TV->List TV,f i=row'->AO w' (BT cs (c::q) f) vs (A++(Bc v++F1')++B) (C++U1'++D)
 |[],cs,vs,F,U,i,c,h,ho,hc=>by
  simp only[Ba]at hc;split at hc
  ·rename_i o e sz j d;simp only[Ap]at hc;subst hc;simp only[Hq,d,Bool.and_true]at ho;subst ho;obtain⟨v,A,B,C,D,F1,U1,hv,hr,rfl,rfl,hk⟩:=DP c h d;obtain⟨n,vs1,F',a,hr,rfl⟩:=hr;refine⟨v,v,n,e,sz,vs1,A,B,C,D,F',U1,hv,a,hr,rfl,rfl,λad m k p=>by subst p;rfl,λw' row' rvs' F1' U1' ho' hr' hA hC f hf=>?_⟩;simp only[BT,d,hf];have s:vs.set c v=vs:=Ib hv
   grind [BU]
  cases hc
 |c'::q,cs,vs,F,U,i,c,h,ho,hc=>by
  rw[Ba]at hc;split at hc
  ·rename_i o e sz j d;simp only[Hq,d,Af]at ho;obtain⟨rfl,ho⟩:=ho;obtain⟨v,A,B,C,D,F1,U1,hv,hr,rfl,rfl,hk⟩:=DP c h d;obtain⟨n,vs1,F',a,hr,rfl⟩:=hr;obtain⟨v2,u,n2,e2,sz2,rvs,A2,B2,C2,D2,F2,U2,t,l,x,rfl,rfl,y,z⟩:=V7 q c' hr (by grind [Hq]) hc;refine⟨v2,v,n2,e2,sz2,rvs,A++(Bc v++A2),B2++B,C++C2,D2++D,F2,U2,hv,l,x,by simp,by simp,?_,?_⟩
   ·intro ad m k p;obtain⟨ad0,m0,k0,rfl,h1⟩:=HB a c' u t;show Ey w ad0 (c'::q)=some ad
    grind [Kk]
   intro w' row' rvs' F1' U1' ho' hr' hA hC f hf;simp only[BT,d];have hown':w'.ownsRow 0 e sz v n vs1:=by
    refine⟨a.1,?_⟩
    rcases a.2 with h0|⟨g,cap,h2,rfl,hg,hh,r⟩
    ·exact .inl h0
    grind [Bc,Value.ownBlock]
   have s:vs.set c v=vs:=Ib hv;have:=hk w' (.sl true e sz<|BT j (c'::q) f) v (Bc v++(A2++(Bc v2++F1')++B2)) (C2++U1'++D2) (by simp only[BU];grind) (λb hb=>hA b<|by grind) λb hb=>hC b<|by grind
   grind [BT]
  cases hc
def AJ (w:World) (a:Act) (blk:Root->Nat):Root->Nat->Option Value
 | .slot n,c=>(a.eval (.tmp n)).cells[c]?
 |r,c=>w.cell? ((⟨blk r,0,none⟩:Addr).add c)
def pv (w:World) (a:Act) (blk:Root->Nat) (r:Root) (q:List Nat) (j:Nat):Option Value:=match q with
 |[]=>AJ w a blk r j
 |c::q=>(AJ w a blk r c).bind λv=>(Iw w v q).bind λad=>w.cell?<|ad.add j
def pa (w:World) (a:Act) (blk:Root->Nat) (r:Root) (q:List Nat) (j:Nat):Option Addr:=match q with
 |[]=>match r with
  | .slot _=>none
  | .hand=>none
  |r=>some<|(⟨blk r,0,none⟩:Addr).add j
 |c::q=>(AJ w a blk r c).bind λv=>(Iw w v q).map λad=>ad.add j
def St.place (E:St) (r:Root) (q:List Nat) (j:Nat):Option TV:=(E.root r).bind λcs=>(Ba cs q).bind λa=>a[j]?
def Hx:Option TV->Bool
 |some t=>t.isSl
 |none=>false
def Cj (w:World) (a:Act) (E:St) (blk:Root->Nat) (t:TV) (v:Value) (F U:List Nat):Prop:=match t with
 | .view r ver q j=>F=[]/\U=[]/\ver<=E.ver r/\(E.ver r=ver->pv w a blk r q j=some v/\Hx (E.place r q j)=true)
 | .ptr r ver q j=>F=[]/\U=[]/\ver<=E.stamp r q/\(E.stamp r q=ver->(E.place r q j).isSome=true/\∃ad,pa w a blk r q j=some ad/\v= .pointer (some ad))
 | .junk=>F=[]/\U=[]
 |t=>BU w t v F U
def BA (w:World) (a:Act) (E:St) (blk:Root->Nat):List TV->List Value->List Nat->List Nat->Prop
 |[],vs,F,U=>vs=[]/\F=[]/\U=[]
 |t::ts,vs,F,U=>∃v b F1 F2 U1 U2,vs=v::b/\F=F1++F2/\U=U1++U2/\Cj w a E blk t v F1 U1/\BA w a E blk ts b F2 U2
mutual
def E4 (w:World) (a:Act) (E:St) (blk:Root->Nat):SV->Value->List Nat->List Nat->Prop
 | .one t,v,F,U=>Cj w a E blk t v F U/\(t.isJunk=false->v.cells= #[v])
 | .agg cs,v,F,U=>∃vs:List Value,v= .agg vs.toArray/\BA w a E blk cs vs F U
 | .tup ss,v,F,U=>∃vs:List Value,v= .tuple vs.toArray/\Mq w a E blk ss vs F U
def Mq (w:World) (a:Act) (E:St) (blk:Root->Nat):List SV->List Value->List Nat->List Nat->Prop
 |[],vs,F,U=>vs=[]/\F=[]/\U=[]
 |s::ss,vs,F,U=>∃v b F1 F2 U1 U2,vs=v::b/\F=F1++F2/\U=U1++U2/\E4 w a E blk s v F1 U1/\Mq w a E blk ss b F2 U2
end
structure Br (w w':World) (a a':Act) (E E':St) (blk blk':Root->Nat) (r:Root):Prop where
 views:E.ver r<E'.ver r\/(E'.ver r=E.ver r/\
  (∀q j v,pv w a blk r q j=some v->Hx (E.place r q j)=true->pv w' a' blk' r q j=some v/\Hx (E'.place r q j)=true)/\
  (∀q j ad,q≠ []->pa w a blk r q j=some ad->(E.place r q j).isSome=true->pa w' a' blk' r q j=some ad/\(E'.place r q j).isSome=true))
 addrs:E.gen r<E'.gen r\/(E'.gen r=E.gen r/\
  (∀j ad,pa w a blk r [] j=some ad->(E.place r [] j).isSome=true->pa w' a' blk' r [] j=some ad/\(E'.place r [] j).isSome=true))
theorem H3 (h:q≠ []):E.stamp r q=E.ver r:=by cases q<;>first|rfl|exact absurd rfl h
theorem LE {t:TV} (hs:∀r,Br w w' a a' E E' blk blk' r) (h:Cj w a E blk t v F U) (hF:∀b∈F,w'.heap[b]?=w.heap[b]?) (hU:∀b∈U,w'.heap[b]?=w.heap[b]?):Cj w' a' E' blk' t v F U:=by
 cases t with
 |view r ver q j=>
  obtain⟨rfl,rfl,hv,hc⟩:=h
  rcases(hs r).views with hlt|⟨he,h1,_⟩
  ·exact⟨rfl,rfl,by omega,λe=>by omega⟩
  refine⟨rfl,rfl,by omega,λe=>?_⟩
  grind
 |ptr r ver q j=>
  obtain⟨rfl,rfl,hv,hc⟩:=h
  cases q with
  |nil=>
   simp only[St.stamp]at hv hc
   rcases(hs r).addrs with hlt|⟨he,h2⟩
   ·exact⟨rfl,rfl,by grind [St.stamp],λe=>by grind [St.stamp]⟩
   refine⟨rfl,rfl,by grind [St.stamp],λe=>?_⟩
   grind [St.stamp]
  |cons c q=>
   rw[H3<|by simp]at hv hc
   rcases(hs r).views with hlt|⟨he,_,h2⟩
   ·exact⟨rfl,rfl,by grind [H3],λe=>by grind [H3]⟩
   refine⟨rfl,rfl,by grind [H3],λe=>?_⟩
   grind [H3]
 |junk=>exact h
 |int k n=>exact Gd h hF hU
 |bool b=>exact Gd h hF hU
 |str s=>exact Gd h hF hU
 |fn _ _ _=>exact Gd h hF hU
 |adr _=>exact Gd h hF hU
 |hdr _ _ _=>exact Gd h hF hU
 |sl o e sz cells=>exact Gd h hF hU
theorem Nf (hs:∀r,Br w w' a a' E E' blk blk' r):∀{ts:List TV} {vs:List Value} {F U:List Nat},BA w a E blk ts vs F U->
  (∀b∈F,w'.heap[b]?=w.heap[b]?)->(∀b∈U,w'.heap[b]?=w.heap[b]?)->BA w' a' E' blk' ts vs F U
 |[],_,_,_,h,_,_=>h
 |t::ts,vs,F,U,h,hF,hU=>by
  obtain⟨v,c,F1,F2,U1,U2,rfl,rfl,rfl,h1,h2⟩:=h
  exact⟨v,c,F1,F2,U1,U2,rfl,rfl,rfl,LE hs h1 (λb hb=>hF b<|Bt _ hb) λb hb=>hU b<|Bt _ hb,
   Nf hs h2 (λb hb=>hF b<|BC _ hb) (λb hb=>hU b<|BC _ hb)⟩
mutual
theorem EW (hs:∀r,Br w w' a a' E E' blk blk' r):∀{s:SV} {v:Value} {F U:List Nat},E4 w a E blk s v F U->
  (∀b∈F,w'.heap[b]?=w.heap[b]?)->(∀b∈U,w'.heap[b]?=w.heap[b]?)->E4 w' a' E' blk' s v F U
 | .one t,v,F,U,h,hF,hU=>by
  exact⟨LE hs h.1 hF hU,h.2⟩
 | .agg cs,v,F,U,h,hF,hU=>by
  obtain⟨vs,rfl,h⟩:=h;exact⟨vs,rfl,Nf hs h hF hU⟩
 | .tup ss,v,F,U,h,hF,hU=>by
  obtain⟨vs,rfl,h⟩:=h;exact⟨vs,rfl,Qr hs h hF hU⟩
theorem Qr (hs:∀r,Br w w' a a' E E' blk blk' r):∀{ss:List SV} {vs:List Value} {F U:List Nat},Mq w a E blk ss vs F U->
  (∀b∈F,w'.heap[b]?=w.heap[b]?)->(∀b∈U,w'.heap[b]?=w.heap[b]?)->Mq w' a' E' blk' ss vs F U
 |[],_,_,_,h,_,_=>by grind [Mq]
 |s::ss,vs,F,U,h,hF,hU=>by
  obtain⟨v,c,F1,F2,U1,U2,rfl,rfl,rfl,h1,h2⟩:=h
  exact⟨v,c,F1,F2,U1,U2,rfl,rfl,rfl,EW hs h1 (λb hb=>hF b<|Bt _ hb) λb hb=>hU b<|Bt _ hb,
   Qr hs h2 (λb hb=>hF b<|BC _ hb) (λb hb=>hU b<|BC _ hb)⟩
end
def Root.mem:Root->Bool
 | .slot _=>false
 | .hand=>false
 |_=>true
structure Base extends World where
 xb:Nat->Nat
 B:List Nat:=[]
 av:Nat->Value:=λ_=>undef
def fZ (w0:Base) (a:Act) (n:Nat):Prop:=if n %2=0 then a.eval (.tmp<|n/2)=w0.av (n/2)else∃B,a.eval (.tmp<|n/2)= .slice B 0 0
theorem fZ.same {w0:Base} (h:fZ w0 a n) (he:a'.eval (.tmp (n/2))=a.eval (.tmp (n/2))):fZ w0 a' n:=by grind [fZ]
structure B8 (w0:Base) (FA UA:List Nat) (N:Nat) (w:World) (a:Act) (E:St) (blk:Root->Nat) (FS US:Root->List Nat):Prop where
 slot:∀n,E4 w a E blk (E.slots n) (a.eval (.tmp n)) (FS (.slot n)) (US (.slot n))
 box:∀r,r.mem=true->(E.boxes r=none/\FS r=[]/\US r=[])\/∃cs cur T F,E.boxes r=some cs/\w.heap[blk r]?=some (.cells cur T (0,0))/\AO w cs cur.toList F (US r)/\FS r=blk r::F
 nohand:E.boxes .hand=none
 nodup:∀r,(FS r).Nodup
 dis:∀r s,r≠s->∀b∈FS r,b∉FS s
 disU:∀r s,∀b∈FS r,b∉US s
 inF:∀r,∀b∈FS r,(b∈FA\/w0.heap.size<=b)/\b<w.heap.size
 inU:∀r,∀b∈US r,(b∈UA\/b∈FA\/w0.heap.size<=b)/\b<w.heap.size
 disA:∀b∈FA,b∉UA
 os:w.os=w0.os
 tape:w.tape=w0.tape
 output:w.output=w0.output
 size:w0.heap.size<=w.heap.size
 keep:∀b,b<w0.heap.size->b∉FA->b∉w0.B->w.heap[b]?=w0.heap[b]?
 len:N<=a.tmps.size
 nodef:a.defers=[]
 xblk:∀i,blk (.ext i)=w0.xb i
 ambB:w0.B=E.amb.B
 ambI:E.amb.I w
 frz:∀n,E.fz=some n->fZ w0 a n
 ambF:∀b∈w0.B,b<w0.heap.size/\b∉FA/\b∉UA
 pin:∀b,E.amb.pin=some b->w0.xb 0=b.1/\∀v,b.2=some v->w0.av 0=v
theorem Ft (h:d<a.tmps.size):(a.put (some d) v).eval (.tmp d)=v:=by simp_all [Act.put,Act.eval]
theorem BX (h:n≠d):(a.put (some d) v).eval (.tmp n)=a.eval (.tmp n):=by simp_all [Act.put,Act.eval];grind
theorem kT {d:Option Nat}:(E.put d s).amb=E.amb:=by cases d<;>rfl
theorem MD {d:Option Nat}:(a.put d v).tmps.size=a.tmps.size:=by simp_all [Act.put];grind
theorem Js {d:Option Nat}:(a.put d v).defers=a.defers:=by simp_all [Act.put];grind
theorem Bf [DecidableEq α] (f:α->β) (x:α) (b:β):Bi f x b x=b:=by simp[Bi]
theorem AF {f:α->β} {x y:α} {b:β} [DecidableEq α] (h:y≠x):Bi f x b y=f y:=by simp[Bi,h]
theorem Ld {blk:Root->Nat} (h:r≠ .slot d) (c:Nat):AJ w (a.put (some d) v) blk r c=AJ w a blk r c:=by
 cases r with
 |slot n=>grind [BX,AJ]
 |box n=>rfl
 |ext n=>rfl
 |hand=>rfl
theorem g9 {blk blk':Root->Nat} (h:∀c,AJ w a' blk' r c=AJ w a blk r c) (q:List Nat) (j:Nat):pv w a' blk' r q j=pv w a blk r q j:=by simp_all [pv]
theorem XO {blk:Root->Nat} (h:∀c,AJ w a' blk r c=AJ w a blk r c) (q:List Nat) (j:Nat):pa w a' blk r q j=pa w a blk r q j:=by simp_all [pa]
theorem S4 (h:r≠ .slot d):(E.put (some d) s).root r=E.root r:=by simp_all [St.root,St.put,Bi];grind
theorem RD (h:r≠ .slot d):(E.put (some d) s).ver r=E.ver r:=by simp[St.put,Bi,h]
theorem OD:(E.put (some d) s).ver (.slot d)=E.ver (.slot d)+1:=by simp[St.put,Bi]
theorem Le {d:Option Nat}:(E.put d s).gen=E.gen:=by cases d<;>rfl
theorem KM {blk:Root->Nat} (r:Root):Br w w a (a.put (some d) v) E (E.put (some d) s) blk blk r:=by
 by_cases h:r= .slot d
 ·subst h;refine⟨.inl (by rw[OD];omega),.inr ⟨by rw[Le],λj ad h1 _=>?_⟩⟩;simp[pa]at h1
 have b:∀q j,(E.put (some d) s).place r q j=E.place r q j:=λq j=>by grind [S4,St.place]
 refine⟨.inr ⟨RD h,λq j u h1 h2=>?_,λq j ad _ h1 h2=>?_⟩,.inr ⟨by rw[Le],λj ad h1 h2=>?_⟩⟩
 ·grind [g9,Ld]
 ·grind [XO,Ld]
 grind [XO,Ld]
structure T6 (w0:Base) (FA UA:List Nat) (w:World) (FS US:Root->List Nat) (d:Root) (F U:List Nat):Prop where
 nd:F.Nodup
 f1:∀r,r≠d->∀b∈F,b∉FS r/\b∉US r
 fu:∀b∈F,b∉U
 u1:∀r,r≠d->∀b∈U,b∉FS r
 inF:∀b∈F,(b∈FA\/w0.heap.size<=b)/\b<w.heap.size
 inU:∀b∈U,(b∈UA\/b∈FA\/w0.heap.size<=b)/\b<w.heap.size
theorem T6.none {d:Root} {w0:Base}:T6 w0 FA UA w FS US d [] []:=
 ⟨BN,by simp,by simp,by simp,by simp,by simp⟩
theorem B8.put {w0:Base} {blk:Root->Nat} (h:B8 w0 FA UA N w a E blk FS US) (hd:d<N) (hs:E4 w a E blk s v F U) (hf:T6 w0 FA UA w FS US (.slot d) F U):
  B8 w0 FA UA N w (a.put (some d) v) (E.put (some d) s) blk (Bi FS (.slot d) F) (Bi US (.slot d) U) where
 slot:=λn=>by
  by_cases hn:n=d
  ·subst hn;rw[Ft<|Aw hd h.len,Bf,Bf];have:(E.put (some n) s).slots n=s:=by simp[St.put,Bi]
   rw[this];exact EW (λr=>KM r) hs (λ_ _=>rfl) λ_ _=>rfl
  have c:Root.slot n≠Root.slot d:=λe=>hn<|Root.slot.inj e
  rw[BX hn,AF c,AF c];have:(E.put (some d) s).slots n=E.slots n:=by simp_all [St.put,Bi]
  rw[this];exact EW (λr=>KM r) (h.slot n) (λ_ _=>rfl) λ_ _=>rfl
 box:=λr hr=>by
  have c:r≠ .slot d:=by rintro rfl;cases hr
  rw[AF c,AF c];exact h.box r hr
 nohand:=h.nohand
 nodup:=λr=>by
  by_cases hr:r= .slot d
  ·subst hr;rw[Bf];exact hf.nd
  rw[AF hr];exact h.nodup r
 dis:=λr s f b hb=>by
  by_cases hr:r= .slot d
  ·subst hr;rw[Bf]at hb;rw[AF<|HJ f];exact(hf.f1 s (HJ f) b hb).1
  rw[AF hr]at hb;by_cases hs:s= .slot d
  ·subst hs;rw[Bf]
   exact λhb'=>(hf.f1 r hr b hb').1 hb
  rw[AF hs];exact h.dis r s f b hb
 disU:=λr s b hb=>by
  by_cases hr:r= .slot d
  ·subst hr;rw[Bf]at hb;by_cases hs:s= .slot d
   ·subst hs;rw[Bf];exact hf.fu b hb
   rw[AF hs];exact(hf.f1 s hs b hb).2
  rw[AF hr]at hb;by_cases hs:s= .slot d
  ·subst hs;rw[Bf];exact λhb'=>hf.u1 r hr b hb' hb
  rw[AF hs];exact h.disU r s b hb
 inF:=λr b hb=>by
  by_cases hr:r= .slot d
  ·subst hr;rw[Bf]at hb;exact hf.inF b hb
  rw[AF hr]at hb;exact h.inF r b hb
 inU:=λr b hb=>by
  by_cases hr:r= .slot d
  ·subst hr;rw[Bf]at hb;exact hf.inU b hb
  rw[AF hr]at hb;exact h.inU r b hb
 disA:=h.disA
 os:=h.os
 tape:=h.tape
 output:=h.output
 size:=h.size
 keep:=h.keep
 len:=by rw[MD];exact h.len
 nodef:=by rw[Js];exact h.nodef
 xblk:=h.xblk
 ambB:=h.ambB
 ambI:=h.ambI
 frz:=λn hn=>by
  obtain⟨h1,h2⟩:=SU hn;exact(h.frz n h1).same (BX h2)
 ambF:=h.ambF
 pin:=h.pin
theorem D7 {t:TV} (h:BU w t v F U) (ht:∀e sz a,t≠ .sl true e sz a):F=[]:=by
 cases t with
 |sl o e sz a=>
  cases o
  ·grind [BU]
  grind
 |int _ _=>exact h.2.1
 |bool _=>exact h.2.1
 |str _=>exact h.2.1
 |fn _ _ _=>exact h.2.1
 |adr _=>exact h.2.1
 |hdr _ _ _=>exact h.2.1
 |junk=>exact h.2.1
 |view _ _ _ _=>grind [BU]
 |ptr _ _ _ _=>grind [BU]
theorem VG {t:TV} (h:Cj w a E blk t v F U) (hp:∀e sz d,t= .sl true e sz d->pv w a blk r q c=some v/\E.place r q c=some t):
  ∃U',Cj w a E blk (oN E r q c t) v [] U'/\∀b∈U',b∈U:=by
 cases t with
 |sl o e sz d=>
  cases o
  ·have hF:=D7 h (by simp);subst hF;exact⟨U,h,λ_ hb=>hb⟩
  obtain⟨h1,h2⟩:=hp e sz d rfl;exact⟨[],⟨rfl,rfl,A8 _,λ_=>⟨h1,by rw[h2];rfl⟩⟩,by simp⟩
 |int _ _=>
  have hF:=D7 h (by simp);subst hF;exact⟨U,h,λ_ hb=>hb⟩
 |bool _=>
  have hF:=D7 h (by simp);subst hF;exact⟨U,h,λ_ hb=>hb⟩
 |str _=>
  have hF:=D7 h (by simp);subst hF;exact⟨U,h,λ_ hb=>hb⟩
 |fn _ _ _=>
  have hF:=D7 h (by simp);subst hF;exact⟨U,h,λ_ hb=>hb⟩
 |adr _=>
  have hF:=D7 h (by simp);subst hF;exact⟨U,h,λ_ hb=>hb⟩
 |hdr _ _ _=>
  have hF:=D7 h (by simp);subst hF;exact⟨U,h,λ_ hb=>hb⟩
 |junk=>exact⟨[],⟨rfl,rfl⟩,by simp⟩
 |view r ver q j=>
  obtain⟨rfl,rfl,h⟩:=h;exact⟨[],⟨rfl,rfl,h⟩,by simp⟩
 |ptr r ver q j=>
  obtain⟨rfl,rfl,h⟩:=h;exact⟨[],⟨rfl,rfl,h⟩,by simp⟩
theorem Mx {r:Root} {q:List Nat}:∀{ts:List TV} {vs:List Value} {F U:List Nat} (c:Nat),BA w a E blk ts vs F U->
  (∀i t v,ts[i]?=some t->vs[i]?=some v->∀e sz d,t= .sl true e sz d->pv w a blk r q (c+i)=some v/\E.place r q (c+i)=some t)->
  ∃U',BA w a E blk (H4 E r q c ts) vs [] U'/\∀b∈U',b∈U
 |[],vs,F,U,c,h,_=>by
  obtain⟨rfl,rfl,rfl⟩:=h;exact⟨[],⟨rfl,rfl,rfl⟩,by simp⟩
 |t::ts,vs,F,U,c,h,hp=>by
  obtain⟨v,f,F1,F2,U1,U2,rfl,rfl,rfl,h1,h2⟩:=h;obtain⟨Ua,ha,g⟩:=VG (r:=r) (q:=q) (c:=c) h1 λe sz d he=>by simpa using hp 0 t v rfl rfl e sz d he
  obtain⟨Ub,hb,j⟩:=Mx (r:=r) (q:=q) (c+1) h2 (λi t' v' hi hv e sz d he=>by
   have:=hp (i+1) t' v' (by simpa using hi) (by simpa using hv) e sz d he
   grind)
  refine⟨Ua++Ub,⟨v,f,[],[],Ua,Ub,rfl,rfl,rfl,ha,hb⟩,λb hb=>?_⟩
  grind
theorem J1 {blk:Root->Nat}:∀{ts:List TV} {vs:List Value} {F U:List Nat},BA w a E blk ts vs F U->vs.length=ts.length
 |[],_,_,_,h=>by obtain⟨rfl,_⟩:=h;rfl
 |t::ts,vs,F,U,h=>by
  obtain⟨v,b,F1,F2,U1,U2,rfl,_,_,_,h2⟩:=h;simp[J1 h2]
theorem Vm {x:TV} (h:NH P t v=some x):BU w x v [] []/\v.cells= #[v]:=by
 unfold NH at h;split at h
 ·injection h with h;subst h;exact⟨by simp[BU],rfl⟩
 ·injection h with h;subst h;exact⟨by simp[BU],rfl⟩
 ·injection h with h;subst h;exact⟨by simp[BU],rfl⟩
 ·split at h
  ·injection h with h
   subst h;refine⟨?_,rfl⟩;exact⟨0,[],[],World.ownsRow_nil w 0 _ _,by simp[AO],by rfl⟩
  cases h
 cases h
theorem CW {t:TV} (h:BU w t v F U):Cj w a E blk t v F U:=by
 cases t with
 |view _ _ _ _=>grind [BU]
 |ptr _ _ _ _=>grind [BU]
 |junk=>exact h.2
 |int _ _=>exact h
 |bool _=>exact h
 |str _=>exact h
 |fn _ _ _=>exact h
 |adr _=>exact h
 |hdr _ _ _=>exact h
 |sl _ _ _ _=>exact h
theorem IF {w0:Base} {o:Operand} (h:B8 w0 FA UA N w a E blk FS US) (hv:E.val P t o=some s):
  ∃U,E4 w a E blk s (a.eval o) [] U/\∀b∈U,∃r,b∈US r:=by
 unfold St.val at hv;split at hv
 ·rename_i n;have hs:=h.slot n;split at hv
  ·rename_i x hx
   injection hv with hv
   subst hv;rw[hx]at hs;obtain⟨hc,hj⟩:=hs
   obtain⟨U',h1,h2⟩:=VG (r:= .slot n) (q:=[]) (c:=0) hc (λe sz cells he=>by
    subst he;refine⟨?_,?_⟩
    ·simp[pv,AJ,hj rfl]
    grind [St.place,St.root,SV.cells,Ba])
   refine⟨U',?_,λb hb=>⟨_,h2 b hb⟩⟩;refine⟨h1,λd=>?_⟩
   grind [oN,TV.isJunk]
  ·rename_i cs hx
   injection hv with hv
   subst hv;rw[hx]at hs;obtain⟨vs,f,hc⟩:=hs;obtain⟨U',h1,h2⟩:=Mx (r:= .slot n) (q:=[]) 0 hc (λi t' v' hi hv' e sz cells he=>by grind [pv,AJ,Value.cells,St.place,St.root,SV.cells,Ba]);simp_all [E4];grind
  cases hv
 ·rename_i v;obtain⟨x,hx,rfl⟩:=A7.1 hv;obtain⟨h1,h2⟩:=Vm (w:=w) hx;refine⟨[],?_,by simp⟩;simp only[E4];exact⟨CW h1,λ_=>h2⟩
 cases hv
theorem FJ {w0:Base} (h:B8 w0 FA UA N w a E blk FS US) (hU:∀b∈U,∃r,b∈US r) (d:Root):T6 w0 FA UA w FS US d [] U where
 nd:=BN
 f1:=by simp
 fu:=by simp
 u1:=λr _ b hb hb'=>by
  obtain⟨s,hs⟩:=hU b hb;exact h.disU r s b hb' hs
 inF:=by simp
 inU:=λb hb=>by
  obtain⟨s,hs⟩:=hU b hb;exact h.inU s b hs
def TV.toV:TV->Option Value
 | .int k n=>some (.int k n)
 | .bool b=>some (.bool b)
 | .str s=>some (.string s)
 |_=>none
def nS (op:BinOp) (k:IntKind) (a b:Int):Option TV:=match op with
 | .add=>some<|.int k<|k.wrap<|a+b
 | .sub=>some<|.int k<|k.wrap<|a-b
 | .mul=>some<|.int k<|k.wrap<|a*b
 | .quo=>if b=0 then none else some<|.int k<|k.wrap<|a.tdiv b
 | .rem=>if b=0 then none else some<|.int k<|a.tmod b
 | .and=>some<|.int k<|k.wrap (BitVec.ofInt k.bits a&&&BitVec.ofInt k.bits b).toNat
 | .or=>some<|.int k<|k.wrap (BitVec.ofInt k.bits a|||BitVec.ofInt k.bits b).toNat
 | .xor=>some<|.int k<|k.wrap (BitVec.ofInt k.bits a^^^BitVec.ofInt k.bits b).toNat
 | .eql=>some<|.bool<|a==b
 | .neq=>some<|.bool<|a !=b
 | .lss=>some<|.bool<|decide<|a<b
 | .leq=>some<|.bool<|decide<|a<=b
 | .gtr=>some<|.bool<|decide<|a>b
 | .geq=>some<|.bool<|decide<|a>=b
 |_=>none
def Tq (op:BinOp) (x y:TV):Option TV:=match x,y with
 | .int k a,.int k' b=>match op with
  | .shl=>if b<0 then none else some<|.int k<|k.wrap<|a*2^(min b.toNat k.bits)
  | .shr=>if b<0 then none else some<|.int k<|a.fdiv<|2^(min b.toNat k.bits)
  |op=>if k=k' then nS op k a b else none
 | .str a,.str b=>match op with
  | .add=>if((a.size+b.size:Nat):Int)>9223372036854775807 then none else some<|.str<|a++b
  | .eql=>some<|.bool<|a.toList==b.toList
  | .neq=>some<|.bool<|!(a.toList==b.toList)
  | .lss=>some<|.bool<|Op.bytesLess a.toList b.toList
  |_=>none
 | .bool a,.bool b=>match op with
  | .eql=>some<|.bool<|a==b
  | .neq=>some<|.bool<|!(a==b)
  |_=>none
 |_,_=>none
theorem eI {ox oy:Operand} {x:TV} {vy:Value} (h:Tq op x y=some z) (hb:∀b,x= .bool b->P.underlying t=some .bool) (hx:x.toV=some vx) (hy:y.toV=some vy):
  ∃vz,z.toV=some vz/\∀W:World,(do eqGuard op t ox oy vx vy;Go.binOp op t vx vy:Sem Value).run P W= .ok vz W:=by
 cases x<;>simp only[TV.toV,Ap,reduceCtorEq]at hx<;>subst hx<;>cases y<;>simp only[TV.toV,Ap,reduceCtorEq]at hy<;>subst hy<;>simp only[Tq,reduceCtorEq]at h
 ·cases op<;>simp only[nS,reduceCtorEq,ite_eq_left_iff,Option.ite_none_left_eq_some,Option.ite_none_right_eq_some,Ap]at h
  all_goals first
   |(obtain⟨rfl,h0,rfl⟩:=h;refine⟨_,rfl,λW=>?_⟩;simp[eqGuard,Go.binOp,Op.intArith,Op.intDiv,Op.intBits,Op.intCmp,h0];done)
   |(obtain⟨rfl,rfl⟩:=h;refine⟨_,rfl,λW=>?_⟩;simp[eqGuard,Go.binOp,Op.intArith,Op.intDiv,Op.intBits,Op.intCmp];done)
   |(obtain⟨h0,rfl⟩:=h;refine⟨_,rfl,λW=>?_⟩;simp[eqGuard,Go.binOp,Op.shift,h0];done)
   |(simp at h;done)
   |skip
 ·rename_i a b;have ht:=hb a rfl;cases op<;>simp only[reduceCtorEq,Ap]at h
  all_goals first
   |(subst h;refine⟨_,rfl,λW=>?_⟩;simp[eqGuard,Go.binOp,Op.equal,Op.maxDepth,run_equalIn_bool',ht];done)
   |skip
 rename_i a b;cases op<;>simp only[reduceCtorEq,Option.ite_none_left_eq_some,Ap]at h
 all_goals first
  |(obtain⟨h0,rfl⟩:=h;refine⟨_,rfl,λW=>?_⟩;have h1:¬(((a.size+b.size:Nat):Int)>IntKind.i64.max):=h0;simp only[eqGuard,Go.binOp,Op.stringOp,Bm h1];rfl)
  |(subst h;refine⟨_,rfl,λW=>?_⟩;rfl)
  |skip
def kE (op:UnOp) (x:TV):Option TV:=match op,x with
 | .neg,.int k n=>some<|.int k<|k.wrap<|0-n
 | .not,.bool b=>some<|.bool<|!b
 | .xor,.int k n=>some<|.int k<|k.wrap (BitVec.ofInt k.bits (if k.signed then-1 else k.max)^^^BitVec.ofInt k.bits n).toNat
 |_,_=>none
theorem gO {op:UnOp} {x:TV} (h:kE op x=some z) (hx:x.toV=some vx):
  ∃vz,z.toV=some vz/\∀W:World,(Op.unary op vx).run P W= .ok vz W:=by
 cases op<;>cases x<;>simp only[kE,reduceCtorEq,Ap]at h<;>subst h<;>simp only[TV.toV,Ap]at hx<;>subst hx<;>exact⟨_,rfl,λW=>by rfl⟩
theorem Th:∀{ts:List TV} {vs:List Value} {F U:List Nat} (c:Nat) {t:TV},BA w a E blk ts vs F U->ts[c]?=some t->
  ∃v F1 U1,vs[c]?=some v/\Cj w a E blk t v F1 U1/\(∀b∈F1,b∈F)/\(∀b∈U1,b∈U)
 |[],_,_,_,c,t,_,hc=>by simp at hc
 |t0::ts,vs,F,U,0,t,h,hc=>by
  obtain⟨v,d,F1,F2,U1,U2,rfl,rfl,rfl,h1,_⟩:=h
  grind
 |t0::ts,vs,F,U,c+1,t,h,hc=>by
  obtain⟨v,d,F1,F2,U1,U2,rfl,rfl,rfl,_,h2⟩:=h;simp at hc;obtain⟨u,G,V,h3,h4,h5,h6⟩:=Th c h2 hc
  grind
theorem cE {w0:Base} {o:Bool} (h:B8 w0 FA UA N w a E blk FS US) {cs:List TV} {cells:List TV} (hr:E.root r=some cs) (hc:cs[c]?=some (.sl o e sz cells)):
  ∃v F1 U1,AJ w a blk r c=some v/\BU w (.sl o e sz cells) v F1 U1/\(∀b∈F1,b∈FS r)/\(∀b∈U1,b∈US r):=by
 have d:∀r,r.mem=true->E.boxes r=some cs->∃v F1 U1,w.cell? ((⟨blk r,0,none⟩:Addr).add c)=some v/\BU w (.sl o e sz cells) v F1 U1/\(∀b∈F1,b∈FS r)/\(∀b∈U1,b∈US r):=by
  intro r hm hr
  rcases h.box r hm with⟨h1,_⟩|⟨cs',g,T,F,h1,h2,h3,h4⟩
  ·grind
  rw[h1]at hr
  injection hr with hr
  subst hr
  grind [DP,World.cell?,Addr.add]
 cases r with
 |slot n=>
  have hs:=h.slot n;simp only[St.root,Ap]at hr
  cases f:E.slots n with
  |one t=>
   rw[f]at hs hr;simp only[SV.cells]at hr;subst hr;obtain⟨hx,hj⟩:=hs
   cases c with
   |succ c=>simp at hc
   |zero=>
    simp at hc;subst hc;exact⟨_,_,_,by simp[AJ,hj rfl],hx,λ_ hb=>hb,λ_ hb=>hb⟩
  |agg ts=>
   rw[f]at hs hr;subst hr;obtain⟨vs,i,hx⟩:=hs;obtain⟨v,F1,U1,h1,h2,h3,h4⟩:=Th c hx hc;exact⟨v,F1,U1,by grind [AJ,Value.cells],h2,h3,h4⟩
  |tup ss=>grind [SV.cells]
 |box n=>exact d (.box n) rfl hr
 |ext n=>exact d (.ext n) rfl hr
 |hand=>simp only[St.root,h.nohand,reduceCtorEq]at hr
theorem Lg {w0:Base} (h:B8 w0 FA UA N w a E blk FS US) {cs:List TV} {f:List TV} (hr:E.root r=some cs) (hc:Ba cs (c::q)=some f):
  ∃rvs F1 U1,AO w f rvs F1 U1/\(∀b∈F1,b∈FS r)/\(∀b∈U1,b∈US r)/\
   ∃hv,AJ w a blk r c=some hv/\∀j u,rvs[j]?=some u->∃ad,∀w2:World,(∀b∈FS r,w2.heap[b]?=w.heap[b]?)->(∀b∈US r,w2.heap[b]?=w.heap[b]?)->Iw w2 hv q=some ad/\w2.cell? (ad.add j)=some u:=by
 simp only[Ba]at hc;split at hc
 ·rename_i o e sz d g;obtain⟨v,F1,U1,h1,h2,h3,h4⟩:=cE h hr g;have h5:AO w [.sl o e sz d] [v] F1 U1:=by simp_all [AO];grind
  have h6:Ba [.sl o e sz d] (0::q)=some f:=by grind [Ba]
  obtain⟨rvs,F2,U2,h7,h8,h9,hv,h10,h11⟩:=Td (0::q) h5 h6;simp at h10;subst h10;refine⟨rvs,F2,U2,h7,λb hb=>h3 b<|h8 b hb,λb hb=>h4 b<|h9 b hb,v,h1,λj u hj=>?_⟩;obtain⟨ad,hk⟩:=h11 j u hj;exact⟨ad,λw2 hA hC=>hk w2 (λb hb=>hA b<|h3 b hb) λb hb=>hC b<|h4 b hb⟩
 cases hc
theorem eN {w0:Base} (h:B8 w0 FA UA N w a E blk FS US) {ad:Addr} {cs e:List TV} (hr:E.root r=some cs) (hc:Ba cs q=some e) (hp:pa w a blk r q j=some ad):
  ∃rvs F1 U1,AO w e rvs F1 U1/\(∀b∈F1,b∈FS r)/\(∀b∈U1,b∈US r)/\
   ∀i u,rvs[j+i]?=some u->pv w a blk r q (j+i)=some u/\∀w2:World,(∀b∈FS r,w2.heap[b]?=w.heap[b]?)->(∀b∈US r,w2.heap[b]?=w.heap[b]?)->w2.cell? (ad.add i)=some u:=by
 have g:∀(x:Addr) (m n:Nat),(x.add m).add n=x.add (m+n):=by grind [Addr.add]
 cases q with
 |nil=>
  simp only[Ba,Ap]at hc;subst hc;have d:∀r:Root,r.mem=true->E.boxes r=some cs->∃rvs F1 U1,AO w cs rvs F1 U1/\(∀b∈F1,b∈FS r)/\(∀b∈U1,b∈US r)/\
    ∀i u,rvs[j+i]?=some u->w.cell? ((⟨blk r,0,none⟩:Addr).add<|j+i)=some u/\∀w2:World,(∀b∈FS r,w2.heap[b]?=w.heap[b]?)->w2.cell? (((⟨blk r,0,none⟩:Addr).add j).add i)=some u:=by
   intro r hm hr
   rcases h.box r hm with⟨h1,_⟩|⟨cs',f,T,F,h1,h2,h3,h4⟩
   ·grind
   rw[h1]at hr
   injection hr with hr
   subst hr;refine⟨f.toList,F,US r,h3,λb hb=>by grind,λ_ hb=>hb,λi u hu=>?_⟩
   grind [World.cell?,Addr.add]
  cases r with
  |slot n=>simp[pa]at hp
  |box n=>
   simp only[pa,Ap]at hp;subst hp;obtain⟨rvs,F1,U1,h1,h2,h3,h4⟩:=d (.box n) rfl hr;exact⟨rvs,F1,U1,h1,h2,h3,λi u hu=>⟨(h4 i u hu).1,λw2 hA _=>(h4 i u hu).2 w2 hA⟩⟩
  |ext n=>
   simp only[pa,Ap]at hp;subst hp;obtain⟨rvs,F1,U1,h1,h2,h3,h4⟩:=d (.ext n) rfl hr;exact⟨rvs,F1,U1,h1,h2,h3,λi u hu=>⟨(h4 i u hu).1,λw2 hA _=>(h4 i u hu).2 w2 hA⟩⟩
  |hand=>simp only[St.root,h.nohand,reduceCtorEq]at hr
 |cons c q=>
  obtain⟨rvs,F1,U1,h1,h2,h3,hv,h4,h5⟩:=Lg h hr hc
  grind [pa,pv]
def St.ptr? (E:St):Operand->Option (Root×List Nat×Nat)
 | .tmp n=>match E.slots n with
  | .one (.ptr r v q j)=>if E.stamp r q=v then some (r,q,j)else none
  |_=>none
 |_=>none
def St.ref (E:St):Operand->Option (Root×List Nat×Nat)
 | .tmp n=>match E.slots n with
  | .one (.sl ..)=>some (.slot n,[],0)
  | .one (.view r v q j)=>if E.ver r=v then some (r,q,j)else none
  |_=>none
 |_=>none
def Tt (P:Program) (t:TypeId):Bool:=match P.underlying t with
 |some (.struct _)|some (.array _ _)=>true
 |_=>false
def St.cell1 (P:Program) (E:St) (t:TypeId) (o:Operand):Option TV:=match E.val P t o with
 |some (.one x)=>some x
 |_=>none
def St.sliceCells (E:St) (o:Operand):Option (Nat×List TV):=match E.ref o with
 |some (r,q,j)=>match E.place r q j with
  |some (.sl _ _ sz cells)=>some (sz,cells)
  |_=>none
 |none=>none
def Tn (P:Program) (t:TypeId):TV->Bool
 | .bool _=>match P.underlying t with
  |some .bool=>true
  |_=>false
 |_=>true
theorem YC (P:Program) (h:Tn P t (.bool b)=true):P.underlying t=some .bool:=by grind [Tn]
def Kb (P:Program) (E:St):Builtin->List Operand->List TypeId->Option SV
 | .len,[x],[t]=>match P.underlying t with
  |some .string=>match E.cell1 P t x with
   |some (.str s)=>some (.one (.int .i64 s.size))
   |_=>none
  |some (.slice _)=>match E.sliceCells x with
   |some (sz,cells)=>if 0<sz then some (.one (.int .i64 (cells.length/sz:Nat)))else none
   |none=>none
  |_=>none
 | .min,[x,y],[t,_]=>match E.cell1 P t x,E.cell1 P t y with
  |some (.int k a),some (.int _ b)=>some (.one (.int k (if b<a then b else a)))
  |_,_=>none
 | .max,[x,y],[t,_]=>match E.cell1 P t x,E.cell1 P t y with
  |some (.int k a),some (.int _ b)=>some (.one (.int k (if b>a then b else a)))
  |_,_=>none
 |_,_,_=>none
def Ka:List TV->Option (List Int)
 |[]=>some []
 | .int .u8 n::ts=>(Ka ts).map (n::·)
 |_=>none
def AB (P:Program) (E:St) (o:Oper):Option SV:=match o.op with
 | .move x=>E.val P o.type x
 | .assign x=>E.val P o.type x
 | .nilCheck x=>match E.ptr? x with
  |some _=>E.val P o.type x
  |none=>none
 | .pick c x y=>match E.cell1 P 0 c with
  |some (.bool true)=>E.val P o.type x
  |some (.bool false)=>E.val P o.type y
  |_=>none
 | .binOp op t x y _=>match E.cell1 P t x,E.cell1 P t y with
  |some x,some y=>if Tn P t x=true then(Tq op x y).map .one else none
  |_,_=>none
 | .unOp op t x=>match E.cell1 P t x with
  |some x=>(kE op x).map .one
  |none=>none
 | .convert src dst x=>match P.underlying src,P.underlying dst,E.cell1 P src x with
  |some (.int _),some<|.int k,some (.int _ n)=>some<|.one<|.int k<|k.wrap n
  |some (.slice e),some .string,_=>match P.underlying e,E.ref x with
   |some (.int .u8),some (r,q,j)=>match E.place r q j with
    |some (.sl _ _ sz cells)=>if sz=1 then(Ka cells).map λl=> .one (.str<|strOfNums l)else none
    |_=>none
   |_,_=>none
  |_,_,_=>none
 | .fieldAddr s x f=>match P.underlying s,E.ptr? x with
  |some (.struct fs),some (r,q,j)=>match fs[f]? with
   |some fd=>if P.cellsOf fd.type=0 then none else if(E.place r q<|j+fd.offset).isSome=true then some (.one<|.ptr r (E.stamp r q) q<|j+fd.offset)else none
   |none=>none
  |_,_=>none
 | .indexAddr t x i=>match P.underlying t,E.cell1 P 0 i with
  |some (.slice e),some (.int _ n)=>match E.ref x with
   |some (r,q,j)=>match E.place r q j with
    |some (.sl _ _ sz cells)=>if sz=P.cellsOf e/\0<sz/\0<=n/\(n.toNat+1)*sz<=cells.length then some (.one<|.ptr r (E.ver r) (q++ [j])<|n.toNat*sz)else none
    |_=>none
   |none=>none
  |some (.array len e),some (.int _ n)=>match E.ptr? x with
   |some (r,q,j)=>if 0<P.cellsOf e/\0<=n/\n<len/\(E.place r q<|j+n.toNat*P.cellsOf e).isSome=true then some (.one<|.ptr r (E.stamp r q) q<|j+n.toNat*P.cellsOf e)else none
   |none=>none
  |_,_=>none
 | .load t x=>match E.ptr? x with
  |some (r,q,j)=>match(E.root r).bind λcs=>Ba cs q with
   |some row=>if j+P.cellsOf t<=row.length then
     (if Tt P t then some (.agg<|H4 E r q j<|(row.drop j).take<|P.cellsOf t) else if P.cellsOf t=1/\(P.underlying t).isSome=true then(row[j]?).map λx=> .one (oN E r q j x)else none) else none
   |none=>none
  |none=>none
 | .index t x i=>match P.underlying t,E.cell1 P t x,E.cell1 P 0 i with
  |some .string,some<|.str s,some (.int _ n)=>if 0<=n/\n<s.size then some (.one<|.int .u8<|bt s n)else none
  |_,_,_=>none
 | .slice t x lo hi none=>match P.underlying t,E.cell1 P t x with
  |some .string,some (.str s)=>match(match lo with|some o=>E.cell1 P 0 o|none=>some<|.int .i64 0),(match hi with|some o=>E.cell1 P 0 o|none=>some<|.int .i64 s.size)with
   |some (.int _ l),some (.int _ h)=>if 0<=l/\l<=h/\h<=s.size then some (.one<|.str<|s.extract l.toNat h.toNat)else none
   |_,_=>none
  |some (.slice e),_=>match E.ref x with
   |some (r,q,j)=>match E.place r q j with
    |some (.sl false e' sz cells)=>match(match lo with|some o=>E.cell1 P 0 o|none=>some<|.int .i64 0),(match hi with|some o=>E.cell1 P 0 o|none=>some<|.int .i64 (cells.length/sz:Nat))with
     |some (.int _ l),some (.int _ h)=>if sz=P.cellsOf e/\0<sz/\0<=l/\l<=h/\h.toNat*sz<=cells.length then some (.one<|.sl false e' sz<|(cells.drop<|l.toNat*sz).take<|(h.toNat-l.toNat)*sz)else none
     |_,_=>none
    |_=>none
   |none=>none
  |_,_=>none
 | .call c=>match c.callee with
  | .builtin b=>Kb P E b c.args.toList c.argTypes.toList
  |_=>none
 |_=>none
where
 bt (s:ByteArray) (i:Int):Int:=if h:i.toNat<s.size then((s[i.toNat]'h).toNat:Int)else 0
theorem WJ (x:Addr) (m n:Nat):(x.add m).add n=x.add (m+n):=by
 unfold Addr.add
 grind
theorem Ot {ad2:Addr}:∀{q:List Nat} {ad ad1:Addr},Ey w ad q=some ad1->w.cell? (ad1.add j)=some (.slice (some ad2) n c)->Ey w ad (q++ [j])=some ad2
 |[],ad,ad1,h1,h2=>by grind [Ey]
 |c'::q,ad,ad1,h1,h2=>by
  simp only[Ey,CB]at h1⊢;split at h1
  ·exact Ot h1 h2
  cases h1
theorem cS {blk:Root->Nat} {ad:Addr} (h:pv w a blk r q j=some (.slice (some ad) n c)):pa w a blk r (q++ [j]) i=some (ad.add i):=by
 cases q with
 |nil=>grind [pv,pa,Iw,Ey]
 |cons c' q=>
  simp only[pa,CB];obtain⟨v,h1,h⟩:=Ac.1 h;obtain⟨ad1,h2,h3⟩:=Ac.1 h;rw[h1];simp only[Aa];cases v<;>simp only[Iw,reduceCtorEq]at h2
  grind [Ot,Iw]
theorem HG {w0:Base} {o:Operand} {x:TV} (h:B8 w0 FA UA N w a E blk FS US) (hv:E.cell1 P t o=some x):
 ∃U,Cj w a E blk x (a.eval o) [] U/\(∀b∈U,∃r,b∈US r)/\(x.isJunk=false->(a.eval o).cells= #[a.eval o]):=by grind [IF,St.cell1,E4]
theorem BJ {w0:Base} {o:Operand} {k:IntKind} {n:Int} (h:B8 w0 FA UA N w a E blk FS US) (hv:E.cell1 P t o=some (.int k n)):a.eval o= .int k n:=by
 obtain⟨U,h1,_⟩:=HG h hv;exact h1.1
theorem NK {w0:Base} {o:Operand} {s:ByteArray} (h:B8 w0 FA UA N w a E blk FS US) (hv:E.cell1 P t o=some (.str s)):a.eval o= .string s:=by
 obtain⟨U,h1,_⟩:=HG h hv;exact h1.1
theorem J2 {w0:Base} {o:Operand} (h:B8 w0 FA UA N w a E blk FS US) (hv:E.cell1 P t o=some (.bool b)):a.eval o= .bool b:=by
 obtain⟨U,h1,_⟩:=HG h hv;exact h1.1
theorem QF {w0:Base} {o:Operand} {x:TV} {z:Value} (h:B8 w0 FA UA N w a E blk FS US) (hv:E.cell1 P t o=some x) (hx:x.toV=some z):a.eval o=z:=by
 cases x<;>simp only[TV.toV,Ap,reduceCtorEq]at hx<;>subst hx
 ·exact BJ h hv
 ·exact J2 h hv
 exact NK h hv
theorem HR {w0:Base} {o:Operand} (h:B8 w0 FA UA N w a E blk FS US) (hv:E.ptr? o=some (r,q,j)):(E.place r q j).isSome=true/\∃ad,pa w a blk r q j=some ad/\a.eval o= .pointer (some ad):=by
 unfold St.ptr? at hv;split at hv
 ·rename_i n;split at hv
  ·rename_i r' v q' j' hs;split at hv
   ·rename_i he;obtain⟨rfl,rfl,rfl⟩:=hv;have:=h.slot n;rw[hs]at this;exact this.1.2.2.2 he
   cases hv
  cases hv
 cases hv
theorem N3 {w0:Base} {o:Operand} (h:B8 w0 FA UA N w a E blk FS US) (hv:E.ref o=some (r,q,j)):pv w a blk r q j=some (a.eval o):=by
 unfold St.ref at hv;split at hv
 ·rename_i n;split at hv
  ·rename_i e1 e2 e3 e4 hs;obtain⟨rfl,rfl,rfl⟩:=hv;have:=h.slot n;rw[hs]at this;simp[pv,AJ,this.2 rfl]
  ·rename_i r' v q' j' hs;split at hv
   ·rename_i he;have:=h.slot n
    grind [E4,Cj]
   cases hv
  cases hv
 cases hv
theorem Jt {w0:Base} {o:Bool} (h:B8 w0 FA UA N w a E blk FS US) {d:List TV} (hp:E.place r q j=some (.sl o e sz d)) (hv:pv w a blk r q j=some v):
  ∃F U,BU w (.sl o e sz d) v F U/\(∀b∈F,b∈FS r)/\(∀b∈U,b∈US r):=by
 obtain⟨cs,hr,hp⟩:=Ac.1 hp;obtain⟨f,hc,hj⟩:=Ac.1 hp
 cases q with
 |nil=>grind [cE,Ba,pv]
 |cons c q=>
  obtain⟨rvs,F1,U1,h1,h2,h3,g,h4,h5⟩:=Lg h hr hc;obtain⟨v',A,B,C,D,F2,U2,h6,h7,rfl,rfl,_⟩:=DP j h1 hj;obtain⟨ad,hk⟩:=h5 j v' h6;obtain⟨h8,h9⟩:=hk w (λ_ _=>rfl) λ_ _=>rfl;simp only[pv,h4,Aa,h8,h9,Ap]at hv
  grind
theorem MB {o:Bool} {a:List TV} (h:BU w (.sl o e sz a) v F U):
  ∃A n c,v= .slice A n c/\n*sz=a.length/\(0<a.length->∃ad,A=some ad):=by
 cases o
 ·obtain⟨A,n,c,vs,U',B,rfl,hn,hl,b,hr,_,_,_⟩:=h;have:=BF hr;refine⟨A,n,c,rfl,by omega,λhp=>?_⟩;have h0:0<vs.length:=by omega
  obtain⟨ad,m,k,he,_⟩:=b 0 _<|Ab h0
  grind
 obtain⟨n,vs,F',ho,hr,_⟩:=h;have:=BF hr;have h2:=ho.1
 rcases ho.2 with⟨rfl,rfl⟩|⟨g,cap,d,rfl,_⟩
 ·grind
 grind
def MC (E:St) (o:Oper):Option Root:=match o.op with
 | .load _ x=>(E.ptr? x).map (·.1)
 | .convert _ _ x=>(E.ref x).map (·.1)
 |_=>none
def jP (P:Program) (FS US:Root->List Nat) (w:World) (a:Act) (E:St) (o:Oper) (v:Value):Prop:=∀w2:World,(∀r,MC E o=some r->(∀b∈FS r,w2.heap[b]?=w.heap[b]?)/\∀b∈US r,w2.heap[b]?=w.heap[b]?)->(execOp a.eval o).run P w2= .ok (.value v) w2
def CX (P:Program) (w:World) (a:Act) (E:St) (blk:Root->Nat) (FS US:Root->List Nat) (o:Oper) (s:SV):Prop:=∃v U,jP P FS US w a E o v/\E4 w a E blk s v [] U/\∀b∈U,∃r,b∈US r
theorem ZP {blk:Root->Nat} (h:z.toV=some v):E4 w a E blk (.one z) v [] []:=by
 cases z<;>simp only[TV.toV,Ap,reduceCtorEq]at h<;>subst h<;>simp[E4,Cj,BU,Value.cells]
theorem RE {blk:Root->Nat} {ad:Addr} (hq:(E.place r q j).isSome=true) (h:pa w a blk r q j=some ad):E4 w a E blk (.one (.ptr r (E.stamp r q) q j)) (.pointer (some ad)) [] []:=by
 exact⟨⟨by trivial,by trivial,A8 _,λ_=>⟨hq,ad,h,rfl⟩⟩,λ_=>rfl⟩
theorem hS {k:Nat} {blk:Root->Nat} {ad:Addr} (h:pa w a blk r q j=some ad):pa w a blk r q (j+k)=some (ad.add k):=by
 cases q with
 |nil=>
  cases r<;>simp only[pa,reduceCtorEq,Ap]at h⊢<;>subst h<;>rw[WJ]
 |cons c q=>
  simp only[pa]at h⊢;obtain⟨v,h1,h⟩:=Ac.1 h
  grind [A7,WJ]
theorem QE:∀{q:List Nat} {cs b:List TV} {j:Nat} {o:Bool} {e sz:Nat} {a:List TV},Ba cs q=some b->b[j]?=some (.sl o e sz a)->Ba cs (q++ [j])=some a
 |[],cs,b,j,o,e,sz,a,h,hj=>by grind [Ba]
 |c::q,cs,b,j,o,e,sz,a,h,hj=>by
  simp only[Ba,CB]at h⊢;split at h
  ·exact QE h hj
  cases h
theorem ZL {o:Bool} {a:List TV} (h:E.place r q j=some (.sl o e sz a)) (hi:i<a.length):(E.place r (q++ [j]) i).isSome=true:=by
 obtain⟨cs,h1,h⟩:=Ac.1 h;obtain⟨b,h2,h3⟩:=Ac.1 h;simp[St.place,h1,QE h2 h3,hi]
theorem Dd (h:P.cellsOf t≠0):∃i,P.info? t=some i/\i.size=P.cellsOf t:=by
 unfold Program.cellsOf at h⊢
 cases hi:P.info? t with
 |none=>simp[hi]at h
 |some i=>grind
theorem Sd {w0:Base} (h:B8 w0 FA UA N w a E blk FS US) (hv:E.val P t x=some s) (b:∀w2:World,(execOp a.eval o).run P w2= .ok (.value (a.eval x)) w2):CX P w a E blk FS US o s:=by
 obtain⟨U,h1,h2⟩:=IF h hv;exact⟨a.eval x,U,λw2 _=>b w2,h1,h2⟩
theorem Fx (hz:z.toV=some v) (b:∀w2:World,(execOp a.eval o).run P w2= .ok (.value v) w2):CX P w a E blk FS US o (.one z):=
 ⟨v,[],λw2 _=>b w2,ZP hz,by simp⟩
theorem lC {w0:Base} (h:B8 w0 FA UA N w a E blk FS US) (ho:o.op= .move x) (hp:AB P E o=some s):CX P w a E blk FS US o s:=by
 simp only[AB,ho]at hp;exact Sd h hp λw2=>by simp[execOp,ho]
theorem eS {w0:Base} (h:B8 w0 FA UA N w a E blk FS US) (ho:o.op= .assign x) (hp:AB P E o=some s):CX P w a E blk FS US o s:=by
 simp only[AB,ho]at hp;exact Sd h hp λw2=>by simp[execOp,ho]
theorem XP {w0:Base} (h:B8 w0 FA UA N w a E blk FS US) (ho:o.op= .nilCheck x) (hp:AB P E o=some s):CX P w a E blk FS US o s:=by
 simp only[AB,ho]at hp;split at hp
 ·rename_i p b;obtain⟨_,ad,_,he⟩:=HR h b;exact Sd h hp λw2=>by simp_all [execOp]
 cases hp
theorem lA {w0:Base} {c y:Operand} (h:B8 w0 FA UA N w a E blk FS US) (ho:o.op= .pick c x y) (hp:AB P E o=some s):CX P w a E blk FS US o s:=by
 simp only[AB,ho]at hp;split at hp
 ·rename_i hc;have:=J2 h hc;exact Sd h hp λw2=>by simp_all [execOp,asBool]
 ·rename_i hc;have:=J2 h hc;exact Sd h hp λw2=>by simp_all [execOp,asBool]
 cases hp
theorem Zf {x:TV} (h:Tq op x y=some z):∃vx vy,x.toV=some vx/\y.toV=some vy:=by
 cases x<;>cases y<;>simp only[Tq,reduceCtorEq]at h<;>exact⟨_,_,rfl,rfl⟩
theorem iD {w0:Base} {t':TypeId} {y:Operand} (h:B8 w0 FA UA N w a E blk FS US) (ho:o.op= .binOp op t x y t') (hp:AB P E o=some s):CX P w a E blk FS US o s:=by
 simp only[AB,ho]at hp;split at hp
 ·rename_i u v hu hv;split at hp
  ·rename_i hb;obtain⟨z,hz,rfl⟩:=A7.1 hp;obtain⟨vx,vy,hx,hy⟩:=Zf hz;have h1:=QF h hu hx;have h2:=QF h hv hy;obtain⟨vz,d,c⟩:=eI (P:=P) (op:=op) (t:=t) (ox:=x) (oy:=y) hz (λb hb'=>by grind [YC]) hx hy;refine Fx d λw2=>?_;have:=c w2;simp only[execOp,ho,h1,h2];simp only[Sem.run_bind]at this⊢;simp_all
  cases hp
 cases hp
theorem kZ {w0:Base} {op:UnOp} (h:B8 w0 FA UA N w a E blk FS US) (ho:o.op= .unOp op t x) (hp:AB P E o=some s):CX P w a E blk FS US o s:=by
 simp only[AB,ho]at hp;split at hp
 ·rename_i u hu;obtain⟨z,hz,rfl⟩:=A7.1 hp;have:∃vx,u.toV=some vx:=by cases op<;>cases u<;>simp only[kE,reduceCtorEq]at hz<;>exact⟨_,rfl⟩
  obtain⟨vx,hx⟩:=this;have h1:=QF h hu hx;obtain⟨vz,c,b⟩:=gO (P:=P) hz hx;simp_all [Fx,execOp]
 cases hp
theorem Tk:∀{ts:List TV} {vs:List Value} {F U:List Nat} {l:List Int},AO w ts vs F U->Ka ts=some l->vs=l.map (.int .u8)
 |[],vs,F,U,l,h,k=>by
  simp only[Ka,Ap]at k;subst k;simp[h.1]
 |t::ts,vs,F,U,l,h,k=>by
  obtain⟨v,a,F1,F2,U1,U2,rfl,_,_,h1,h2⟩:=h
  cases t with
  |int kd n=>
   cases kd<;>simp only[Ka,reduceCtorEq]at k;obtain⟨l',k1,rfl⟩:=A7.1 k;rw[h1.1,Tk h2 k1];rfl
  |_=>simp[Ka]at k
theorem ZQ {w0:Base} {src dst:TypeId} (h:B8 w0 FA UA N w a E blk FS US) (ho:o.op= .convert src dst x) (hp:AB P E o=some s):CX P w a E blk FS US o s:=by
 simp only[AB,ho]at hp;split at hp
 ·rename_i k0 k k1 n hs hd hu
  injection hp with hp
  subst hp;have h1:=BJ h hu;refine Fx rfl λw2=>?_;simp[execOp,ho,h1,convert,run_underlying hs,run_underlying hd,Conv.intToInt]
 ·rename_i e hs hd;split at hp
  ·rename_i r q j he hr;split at hp
   ·rename_i o' e' sz cells d;split at hp
    ·rename_i f;subst f;obtain⟨l,hl,rfl⟩:=A7.1 hp;obtain⟨F,U,h1,h2,h3⟩:=Jt h d<|N3 h hr;refine⟨.string<|strOfNums l,[],λw2 m=>?_,by simp[E4,Cj,BU,Value.cells],by simp⟩;have hw:=m r (by grind [MC]);have h4:=Gd (w':=w2) h1 (λb hb=>hw.1 b<|h2 b hb) λb hb=>hw.2 b<|h3 b hb;have p:∃A n c vs F' U',a.eval x= .slice A n c/\vs.length=n/\J4 w2 (a.eval x) vs/\AO w2 cells vs F' U':=by
      cases o' with
      |true=>
       obtain⟨n,vs,F',h5,h6,_⟩:=h4;have hs':∃A c,a.eval x= .slice A n c:=by
        rcases h5.2 with⟨h7,rfl⟩|⟨g,cap,z,h7,_⟩
        ·grind
        grind
       obtain⟨A,c,h7⟩:=hs';exact⟨A,n,c,vs,F',_,h7,by simpa using h5.1,HB h5,h6⟩
      |false=>grind [BU]
     obtain⟨A,n,c,vs,F',U',k1,k2,k3,k4⟩:=p;have k5:=Tk k4 hl;simp only[execOp,ho,k1];have y:(convert src dst<|.slice A n c).run P w2= .ok (.string<|strOfNums l) w2:=by
      rw[run_convert_bytes_string w2 src dst e A n c hs he hd]
      cases A with
      |none=>
       have hv:vs=[]:=by
        cases vs with
        |nil=>rfl
        |cons u us=>
         obtain⟨ad,n',c',hx,_⟩:=k3 0 u rfl
         grind
       subst hv;have:l=[]:=by simpa using k5.symm
       subst this;rfl
      |some ad=>
       have t:(loadCells ad n).run P w2= .ok (l.map<|Value.int .u8).toArray w2:=by
        have:=run_loadCells_list (P:=P) w2 ad (l.map<|Value.int .u8) (λi v hi=>by
         rw[<-k5]at hi;obtain⟨ad',n',c',hx,hy⟩:=k3 i v hi
         grind)
        grind
       rw[run_bytesToString w2 _ n c l t,foldl_push_bytes];simp[strOfNums]
     simp_all
    cases hp
   cases hp
  cases hp
 cases hp
theorem Wb {w0:Base} {st:TypeId} {f:Nat} (h:B8 w0 FA UA N w a E blk FS US) (ho:o.op= .fieldAddr st x f) (hp:AB P E o=some s):CX P w a E blk FS US o s:=by
 simp only[AB,ho]at hp;split at hp
 ·rename_i fs r q j hs c;split at hp
  ·rename_i fd hf;split at hp
   ·cases hp
   rename_i b;split at hp
   case isFalse=>cases hp
   rename_i hq
   injection hp with hp
   subst hp;obtain⟨_,ad,h1,h2⟩:=HR h c;obtain⟨i,hi,_⟩:=Dd b;refine⟨_,[],λw2 _=>?_,RE hq<|hS h1,by simp⟩;simp[execOp,ho,h2,Instr.fieldAt,run_underlying hs,hf,Instr.sureAddr,fieldPlace,run_sizeOf w2 hi,b]
  cases hp
 cases hp
theorem Wa {w0:Base} {i:Operand} (h:B8 w0 FA UA N w a E blk FS US) (ho:o.op= .indexAddr t x i) (hp:AB P E o=some s):CX P w a E blk FS US o s:=by
 simp only[AB,ho]at hp;split at hp
 ·rename_i e k n ht hi;split at hp
  ·rename_i r q j f;split at hp
   ·rename_i o' e' sz d g;split at hp
    ·rename_i hc;obtain⟨rfl,l,v,p⟩:=hc
     injection hp with hp
     subst hp;have h1:=BJ h hi;have h2:=N3 h f;obtain⟨F,U,h3,_,_⟩:=Jt h g h2;obtain⟨A,m,c,hv,hm,hA⟩:=MB h3;have u:0<d.length:=Aw (Nat.mul_pos (by omega) l) p;obtain⟨ad,rfl⟩:=hA u;obtain⟨inf,b,_⟩:=Dd (P:=P) (t:=e) (by omega);have y:n<(m:Int):=by
      have:(n.toNat+1)<=m:=Nat.le_of_mul_le_mul_right (by grind) l;omega
     rw[hv]at h2;have z:E.stamp r (q++ [j])=E.ver r:=H3 (by simp);rw[<-z];refine⟨_,[],λw2 _=>?_,RE (ZL g<|Aw (by grind) p)<|cS h2,by simp⟩;simp[execOp,ho,h1,hv,Instr.indexAt,run_underlying ht,asIntOf,v,y,run_sizeOf w2 b]
    cases hp
   cases hp
  cases hp
 ·rename_i len e k n ht hi;split at hp
  ·rename_i r q j h0;split at hp
   ·rename_i hc
    injection hp with hp
    subst hp;have h1:=BJ h hi;obtain⟨_,ad,h2,h3⟩:=HR h h0;obtain⟨inf,b,_⟩:=Dd (P:=P) (t:=e) (by omega);refine⟨_,[],λw2 _=>?_,RE hc.2.2.2<|hS h2,by simp⟩;simp[execOp,ho,h1,h3,Instr.indexAt,run_underlying ht,asIntOf,Instr.sureAddr,hc,run_sizeOf w2 b]
   cases hp
  cases hp
 cases hp
theorem Q3:∀(j:Nat) {ts:List TV} {vs F U},AO w ts vs F U->∃F1 U1,AO w (ts.drop j) (vs.drop j) F1 U1/\(∀b∈F1,b∈F)/\(∀b∈U1,b∈U)
 |0,ts,vs,F,U,h=>⟨F,U,h,λ_ hb=>hb,λ_ hb=>hb⟩
 |j+1,[],vs,F,U,h=>by grind [AO]
 |j+1,t::ts,vs,F,U,h=>by
  obtain⟨v,a,F1,F2,U1,U2,rfl,rfl,rfl,h1,h2⟩:=h;obtain⟨F3,U3,h3,h4,h5⟩:=Q3 j h2
  grind
theorem Qz:∀(n:Nat) {ts:List TV} {vs F U},AO w ts vs F U->∃F1 U1,AO w (ts.take n) (vs.take n) F1 U1/\(∀b∈F1,b∈F)/\(∀b∈U1,b∈U)
 |0,ts,vs,F,U,h=>⟨[],[],by simp[AO],by simp,by simp⟩
 |n+1,[],vs,F,U,h=>by grind [AO]
 |n+1,t::ts,vs,F,U,h=>by
  obtain⟨v,a,F1,F2,U1,U2,rfl,rfl,rfl,h1,h2⟩:=h;obtain⟨F3,U3,h3,h4,h5⟩:=Qz n h2;refine⟨F1++F3,U1++U3,by grind [AO],λb hb=>?_,λb hb=>?_⟩
  ·grind
  grind
theorem Cz {blk:Root->Nat}:∀{ts:List TV} {vs:List Value} {F U:List Nat},AO w ts vs F U->BA w a E blk ts vs F U
 |[],vs,F,U,h=>by grind [AO,BA]
 |t::ts,vs,F,U,h=>by
  obtain⟨v,b,F1,F2,U1,U2,rfl,rfl,rfl,h1,h2⟩:=h;exact⟨v,b,F1,F2,U1,U2,rfl,rfl,rfl,CW h1,Cz h2⟩
theorem JU {t:TV} (h:BU w t v F U):v.oneCell'=true:=by
 cases t with
 |int _ _=>obtain⟨rfl,_⟩:=h;rfl
 |bool _=>obtain⟨rfl,_⟩:=h;rfl
 |str _=>obtain⟨rfl,_⟩:=h;rfl
 |fn _ _ _=>obtain⟨rfl,_⟩:=h;rfl
 |adr _=>obtain⟨rfl,_⟩:=h;rfl
 |hdr _ _ _=>obtain⟨rfl,_⟩:=h;rfl
 |junk=>exact h.1
 |view _ _ _ _=>grind [BU]
 |ptr _ _ _ _=>grind [BU]
 |sl o e sz cells=>
  obtain⟨A,n,c,rfl,_⟩:=MB h;rfl
theorem S2:∀{ts:List TV} {vs:List Value} {F U:List Nat},AO w ts vs F U->∀v∈vs,v.oneCell'=true
 |[],vs,F,U,h,v,hv=>by grind [AO]
 |t::ts,vs,F,U,h,v,hv=>by
  obtain⟨u,a,F1,F2,U1,U2,rfl,rfl,rfl,h1,h2⟩:=h
  rcases EN.1 hv with rfl|hv
  ·exact JU h1
  exact S2 h2 v hv
theorem K5 (h:v.oneCell'=true):v.cells= #[v]:=by cases v<;>first|rfl|cases h
theorem Ku (h:P.underlying t≠none):(isAgg t).run P w2= .ok (Tt P t) w2:=by
 cases hu:P.underlying t with
 |none=>exact absurd hu h
 |some d=>cases d<;>simp[isAgg,run_underlying hu,Tt,hu]
theorem lD {w0:Base} (h:B8 w0 FA UA N w a E blk FS US) (ho:o.op= .load t x) (hp:AB P E o=some s):CX P w a E blk FS US o s:=by
 simp only[AB,ho]at hp;split at hp
 ·rename_i r q j z;split at hp
  ·rename_i a6 m;obtain⟨cs,hr,hc⟩:=Ac.1 m;obtain⟨_,ad,h1,h2⟩:=HR h z;obtain⟨rvs,F1,U1,h3,h4,h5,h6⟩:=eN h hr hc h1;have a0:MC E o=some r:=by grind [MC]
   have a4:=BF h3;split at hp
   ·split at hp
    ·rename_i f
     injection hp with hp
     subst hp;have g:P.underlying t≠none:=by grind [Tt]
     obtain⟨F2,U2,h7,h8,h9⟩:=Q3 j h3;obtain⟨F3,U3,h10,h11,h12⟩:=Qz (P.cellsOf t) h7;have a1:=Cz (a:=a) (E:=E) (blk:=blk) h10;obtain⟨U4,h13,h14⟩:=Mx (r:=r) (q:=q) j a1 (λi t' v' hi hv e sz k he=>by grind [St.place]);refine⟨.agg ((rvs.drop j).take<|P.cellsOf t).toArray,U4,λw2 n=>?_,?_,λb hb=>⟨r,h5 b<|h9 b<|h12 b<|h14 b hb⟩⟩
     ·have hl:((rvs.drop j).take<|P.cellsOf t).length=P.cellsOf t:=by grind
      have d:=run_loadCells_list (P:=P) w2 ad ((rvs.drop j).take<|P.cellsOf t) (λi u hu=>by grind);rw[hl]at d;have a2:(sizeOf t).run P w2= .ok (P.cellsOf t) w2:=by grind [run_sizeOf,Program.underlying]
      simp[execOp,ho,h2,Instr.loadAt,Instr.sureAddr,loadVar,Ku g,f,a2,d]
     grind [E4]
    split at hp
    ·rename_i f a5;obtain⟨x',hx',rfl⟩:=A7.1 hp;have g:P.underlying t≠none:=by grind
     obtain⟨v,A,B,C,D,F2,U2,hv,p,hF,hU,_⟩:=DP j h3 hx';obtain⟨a3,l⟩:=h6 0 v hv;obtain⟨U4,h13,h14⟩:=VG (r:=r) (q:=q) (c:=j) (CW (a:=a) (E:=E) (blk:=blk) p) (λe sz k he=>⟨a3,by grind [St.place]⟩);refine⟨v,U4,λw2 n=>?_,?_,λb hb=>⟨r,h5 b<|by grind⟩⟩
     ·obtain⟨hA,hC⟩:=n r a0;have:=l w2 hA hC;have h0:ad.add 0=ad:=by simp[Addr.add]
      rw[h0]at this;have y:Tt P t=false:=by simpa using f
      simp[execOp,ho,h2,Instr.loadAt,Instr.sureAddr,loadVar,Ku g,y,this]
     exact⟨h13,λ_=>K5<|JU p⟩
    cases hp
   cases hp
  cases hp
 cases hp
theorem iC {w0:Base} {i:Operand} (h:B8 w0 FA UA N w a E blk FS US) (ho:o.op= .index t x i) (hp:AB P E o=some s):CX P w a E blk FS US o s:=by
 simp only[AB,ho]at hp;split at hp
 ·rename_i str k n ht hx hi;split at hp
  ·rename_i hc
   injection hp with hp
   subst hp;have h1:=NK h hx;have h2:=BJ h hi;have b:n.toNat<str.size:=by omega
   refine Fx rfl λw2=>?_;have hg:str[n.toNat]?=some str[n.toNat]:=by simp[b]
   simp only[execOp,ho,h1,h2,Instr.index];simp[run_underlying ht,asIntOf,hc.1,hg,AB.bt,b]
  cases hp
 cases hp
theorem gP {e:TypeId} {A:Option Addr} {lo hi:Option Value} {l u:Nat} (ht:P.underlying t=some (.slice e)) (d:sz=P.cellsOf e) (h0:0<sz) (f:l<=u) (g:u<=n) (h:n<=c) (a:lo=none/\l=0\/∃k,lo=some (.int k l)) (b:hi=none/\u=n\/∃k,hi=some (.int k u)) (w2:World):
  (Instr.sliceAt t (.slice A n c) lo hi none).run P w2= .ok (.slice (if c=l then A else A.map (·.add (l*sz))) (u-l) (c-l)) w2:=by
 have he:P.elem t=e:=by simp[Program.elem,ht]
 have ht':P.underlying t=some (.slice<|P.elem t):=by rw[he];exact ht
 obtain⟨i,j,m⟩:=Dd (P:=P) (t:=e) (by omega);rw[run_sliceAt_slice w2 _ _ _ _ _ ht']
 rcases a with⟨rfl,rfl⟩|⟨k,rfl⟩<;>rcases b with⟨rfl,rfl⟩|⟨k',rfl⟩
 ·simp_all [run_slice_all,sizeOf,typeInfo,sliced]
 ·rw[run_slice_h w2 _ _ _ _ ht' _ _ (by omega)<|by omega];simp_all [sizeOf,typeInfo,sliced]
 ·simp_all [run_slice_l,sizeOf,typeInfo,sliced]
 rw[run_slice_lh w2 _ _ _ _ ht' _ _ _ _ (by omega) (by omega)<|by omega];simp_all [sizeOf,typeInfo,sliced]
theorem lB {w0:Base} {e:TypeId} {e':Nat} {k1 k2:IntKind} {l u:Int} (h:B8 w0 FA UA N w a E blk FS US) (ho:o.op= .slice t x lo hi none) (ht:P.underlying t=some (.slice e)) {d:List TV} (hr:E.ref x=some (r,q,j)) (v:E.place r q j=some (.sl false e' sz d)) (hl:lo=none/\l=0\/∃ol,lo=some ol/\a.eval ol= .int k1 l) (hu:hi=none/\u=(d.length/sz:Nat)\/∃oh,hi=some oh/\a.eval oh= .int k2 u) (hc:sz=P.cellsOf e/\0<sz/\0<=l/\l<=u/\u.toNat*sz<=d.length):
  CX P w a E blk FS US o (.one (.sl false e' sz ((d.drop (l.toNat*sz)).take ((u.toNat-l.toNat)*sz)))):=by
 obtain⟨z,h0,h4,a4,f⟩:=hc;obtain⟨F,U,h1,h2,h3⟩:=Jt h v<|N3 h hr;simp only[BU]at h1;obtain⟨A,n,c,vs,U0,B,hv,h5,k,h6,m,rfl,hB,rfl⟩:=h1;have h7:=BF m;obtain⟨l',rfl⟩:=BE h4;obtain⟨u',rfl⟩:=BE (by omega:0<=u);simp only[Cx]at f⊢;have h8:u'<=n:=by
  rw[<-h7,k]at f;exact Nat.le_of_mul_le_mul_right f h0
 have hlu':l'<=u':=by omega
 have a2:d.length/sz=n:=by simp_all
 have p:∀w2:World,(execOp a.eval o).run P w2= .ok (.value (.slice (if c=l' then A else A.map (·.add (l'*sz))) (u'-l')<|c-l')) w2:=by
  intro w2;have:=gP (P:=P) ht z h0 (A:=A) (lo:=lo.map a.eval) (hi:=hi.map a.eval) hlu' h8 h5
   (by grind)
   (by grind) w2
  simp_all [execOp]
 obtain⟨F1,U1,d1,d2,d3⟩:=Q3 (l'*sz) m;obtain⟨F2,U2,g1,g2,g3⟩:=Qz ((u'-l')*sz) d1;have h9:F2=[]:=by
  cases F2 with
  |nil=>rfl
  |cons b _=>exact absurd (d2 b<|g2 b<|by simp)<|by simp
 subst h9;have s:((vs.drop<|l'*sz).take<|(u'-l')*sz).length=(u'-l')*sz:=by grind [Nat.sub_mul]
 have hrd':J4 w (.slice (if c=l' then A else A.map (·.add (l'*sz))) (u'-l')<|c-l') ((vs.drop<|l'*sz).take<|(u'-l')*sz):=by
  intro i y hi;have g:=(Ad.1 hi).1;rw[s]at g;rw[List.getElem?_take,Bw g,NU]at hi;obtain⟨ad,n2,c2,k3,k4⟩:=h6 (l'*sz+i) y hi;rw[hv]at k3
  injection k3 with k3 k5 k6
  subst k3;have a5:c≠l':=by grind
  refine⟨ad.add<|l'*sz,u'-l',c-l',by grind,?_⟩;rw[<-k4];congr 1;unfold Addr.add
  grind
 have a0:∃B',(B'=Bc (.slice (if c=l' then A else A.map (·.add (l'*sz))) (u'-l')<|c-l')\/(vs.drop<|l'*sz).take ((u'-l')*sz)=[]/\B'=[])/\∀b∈B',b∈US r:=by
  by_cases a3:(vs.drop<|l'*sz).take ((u'-l')*sz)=[]
  ·simp_all
  rcases hB with hB|⟨hB,_⟩
  ·refine⟨Bc<|a.eval x,.inl ?_,λb hb=>h3 b<|Bt _ (by rw[hB];exact hb)⟩;rw[hv]
   cases A with
   |none=>split<;>rfl
   |some ad=>grind [Jd,Bc,Value.ownBlock]
  grind
 obtain⟨B',a1,a6⟩:=a0;refine⟨_,B'++U2,λw2 _=>p w2,?_,λb hb=>⟨r,?_⟩⟩
 ·simp only[E4,Cj,BU];refine⟨⟨_,_,_,_,U2,B',rfl,by omega,s,hrd',g1,trivial,a1,rfl⟩,λ_=>rfl⟩
 grind
theorem iB {w0:Base} (h:B8 w0 FA UA N w a E blk FS US) (ho:o.op= .slice t x lo hi none) (hp:AB P E o=some s):CX P w a E blk FS US o s:=by
 simp only[AB,ho]at hp;split at hp
 ·rename_i str ht hx;have h1:=NK h hx;split at hp
  ·rename_i k1 l k2 u hl hu;split at hp
   ·rename_i hc
    injection hp with hp
    subst hp;obtain⟨d,i,k⟩:=hc;refine Fx rfl λw2=>?_;have hL:lo=none/\l=0\/∃ol,lo=some ol/\a.eval ol= .int k1 l:=by grind [BJ]
    have hU:hi=none/\u=(str.size:Int)\/∃oh,hi=some oh/\a.eval oh= .int k2 u:=by grind [BJ]
    obtain⟨u',rfl⟩:=BE (by omega:0<=u);obtain⟨l',rfl⟩:=BE d;have e1:l'<=u':=by omega
    have e2:u'<=str.size:=by omega
    rcases hL with⟨rfl,m⟩|⟨ol,rfl,b⟩<;>rcases hU with⟨rfl,n⟩|⟨oh,rfl,c⟩
    ·have:l'=0:=by omega
     have:u'=str.size:=by omega
     subst_vars
     simp[execOp,ho,h1,Instr.sliceAt,run_underlying ht,Instr.slice,Instr.sliceBounds]
    ·have:l'=0:=by omega
     subst this;simp[execOp,ho,h1,Instr.sliceAt,run_underlying ht,Instr.slice,Instr.sliceBounds,Instr.sliceBound,c,asIntOf,e2]
    ·have:u'=str.size:=by omega
     subst this;simp[execOp,ho,h1,Instr.sliceAt,run_underlying ht,Instr.slice,Instr.sliceBounds,Instr.sliceBound,b,asIntOf,e1]
    simp[execOp,ho,h1,Instr.sliceAt,run_underlying ht,Instr.slice,Instr.sliceBounds,Instr.sliceBound,b,c,asIntOf,e1,e2]
   cases hp
  cases hp
 ·rename_i e ht;split at hp
  ·rename_i r q j hr;split at hp
   ·rename_i e' sz f g;split at hp
    ·rename_i k1 l k2 u hl hu;split at hp
     ·rename_i hc
      injection hp with hp
      subst hp;refine lB h ho ht hr g (k1:=k1) (k2:=k2) ?_ ?_ hc
      ·grind [BJ]
      grind [BJ]
     cases hp
    cases hp
   cases hp
  cases hp
 cases hp
theorem ZR {w0:Base} {c:Call} {b:Builtin} (h:B8 w0 FA UA N w a E blk FS US) (ho:o.op= .call c) (hb:c.callee= .builtin b) (hp:Kb P E b c.args.toList c.argTypes.toList=some s):CX P w a E blk FS US o s:=by
 obtain⟨callee,args,types⟩:=c;simp only at hb;subst hb;simp only at hp;unfold Kb at hp;split at hp
 ·rename_i x t d f;obtain rfl:args= #[x]:=by cases args;simp_all
  obtain rfl:types= #[t]:=by cases types;simp_all
  split at hp
  ·rename_i ht;split at hp
   ·rename_i str hx
    injection hp with hp
    subst hp;have h1:=NK h hx;refine Fx rfl λw2=>?_;simp[execOp,ho,resolve,invoke,builtin,Builtin.len_,h1,run_underlying ht,goInt]
   cases hp
  ·rename_i e ht;split at hp
   ·rename_i sz l hs;split at hp
    ·rename_i g
     injection hp with hp
     subst hp;unfold St.sliceCells at hs;split at hs
     ·rename_i r q j i;split at hs
      ·rename_i o' e' sz' cells' p;obtain⟨rfl,rfl⟩:=hs;have h2:=N3 h i;obtain⟨F,U,h3,_,_⟩:=Jt h p h2;obtain⟨A,m,c,hv,hm,_⟩:=MB h3;refine Fx (v:= .int .i64 m) ?_ (λw2=>?_)
       ·simp only[TV.toV];rw[<-hm,Nat.mul_div_cancel _ g]
       simp[execOp,ho,resolve,invoke,builtin,Builtin.len_,hv,run_underlying ht,goInt]
      cases hs
     cases hs
    cases hp
   cases hp
  cases hp
 ·rename_i x y t t' d f;obtain rfl:args= #[x,y]:=by cases args;simp_all
  split at hp
  ·rename_i k m k' n hx hy
   injection hp with hp
   subst hp;have h1:=BJ h hx;have h2:=BJ h hy;refine Fx rfl λw2=>?_;simp[execOp,ho,resolve,invoke,builtin,Builtin.min_,h1,h2,Builtin.min2]
  cases hp
 ·rename_i x y t t' d f;obtain rfl:args= #[x,y]:=by cases args;simp_all
  split at hp
  ·rename_i k m k' n hx hy
   injection hp with hp
   subst hp;have h1:=BJ h hx;have h2:=BJ h hy;refine Fx rfl λw2=>?_;simp[execOp,ho,resolve,invoke,builtin,Builtin.max_,h1,h2,Builtin.max2]
  cases hp
 cases hp
theorem Lf {w0:Base} (h:B8 w0 FA UA N w a E blk FS US) (hp:AB P E o=some s):CX P w a E blk FS US o s:=by
 have b:=hp;unfold AB at hp;split at hp
 ·grind [lC]
 ·grind [eS]
 ·grind [XP]
 ·grind [lA]
 ·grind [iD]
 ·grind [kZ]
 ·grind [ZQ]
 ·grind [Wb]
 ·grind [Wa]
 ·grind [lD]
 ·grind [iC]
 ·grind [iB]
 ·grind [ZR]
 cases hp
def St.ownAt (E:St) (r:Root) (q:List Nat):Bool:=match E.root r with
 |some cs=>Hq cs q
 |none=>false
def Zn (E:St) (r:Root) (ver:Nat) (q:List Nat) (j:Nat):Option (TV×St):=if E.ver r=ver then
  match E.place r q j with
  |some (.sl true e sz cells)=>if E.ownAt r q=true then
    match E.root r with
    |some cs=>some (.sl true e sz cells,(E.setRoot r<|BT cs q λa=>a.set j .junk).bump r)
    |none=>none else none
  |some (.sl false e sz cells)=>some (.sl false e sz cells,E)
  |_=>none else none
def Di (E:St):TV->Option (TV×St)
 | .view r v q j=>Zn E r v q j
 | .ptr .. =>none
 | .junk=>none
 | .sl o e sz cells=>some (.sl o e sz cells,E)
 |t=>some (t,E)
def oP (E E1:St):TV->TV->TV
 | .view r _ q j,.view r' v' q' j'=>if r'=r/\E.ver r=v'/\q'=q/\j'≠j then .view r' (E1.ver r') q' j' else .view r' v' q' j'
 |_,u=>u
def Ux (n:Nat) (E:St) (l:List TV):Option (List TV×St):=match n,l with
 |0,_=>some ([],E)
 |_+1,[]=>some ([],E)
 |n+1,t::ts=>match Di E t with
  |some (x,E1)=>match Ux n E1 (ts.map<|oP E E1 t)with
   |some (xs,E2)=>some (x::xs,E2)
   |none=>none
  |none=>none
def DK (E:St) (l:List TV):Option (List TV×St):=Ux l.length E l
theorem Mr {t:TV} {ts:List TV}:DK E (t::ts)=match Di E t with
 |some (x,E1)=>match DK E1 (ts.map (oP E E1 t))with
  |some (xs,E2)=>some (x::xs,E2)
  |none=>none
 |none=>none:=by grind [DK,Ux]
theorem Rs:(E.bump r).ver r=E.ver r+1:=by simp[St.bump,Bi]
theorem Rr {s:Root} (h:s≠r):(E.bump r).ver s=E.ver s:=by simp[St.bump,Bi,h]
theorem JQ {cs:List TV}:(E.setRoot r cs).ver=E.ver:=by cases r<;>rfl
theorem K6 {s:Root}:(E.bump r).root s=E.root s:=by cases s<;>rfl
theorem aX:(E.bump r).slots=E.slots:=rfl
theorem Tm:(E.bump r).boxes=E.boxes:=rfl
theorem LJ {s:Root} {cs:List TV} (h:s≠r):(E.setRoot r cs).root s=E.root s:=by
 cases r<;>cases s<;>simp only[St.setRoot,St.root,Bi]<;>first
  |rfl
  |grind
  |(rw[Bm h])
  |(simp_all;done)
theorem Mw {cs:List TV}:(E.setRoot r cs).gen=E.gen:=by cases r<;>rfl
theorem Tl:(E.bump r).gen=E.gen:=rfl
theorem JR {cs:List TV} (h:r.mem=true):(E.setRoot r cs).root r=some cs:=by cases r<;>simp_all [St.setRoot,St.root,Bi,Root.mem]
theorem Sn {cs:List TV} (b:r.mem=true->∀cs0,E.root r=some cs0->cs.length=cs0.length) (s:Root):Br w w a a E ((E.setRoot r cs).bump r) blk blk s:=by
 by_cases h:s=r
 ·subst h;refine⟨.inl (by grind [Rs,JQ]),.inr ⟨by rw[Tl,Mw],λj ad h1 h2=>⟨h1,?_⟩⟩⟩;by_cases hm:s.mem=true
  ·unfold St.place at h2
   cases hr:E.root s with
   |none=>simp[hr]at h2
   |some cs0=>grind [K6,JR,Ba,St.place]
  cases s<;>first|grind [pa]|exact absurd rfl hm
 have c:∀q j,((E.setRoot r cs).bump r).place s q j=E.place s q j:=λq j=>by grind [K6,LJ,St.place]
 refine⟨.inr ⟨by rw[Rr h,JQ],λq j v h1 h2=>⟨h1,by grind⟩,λq j ad _ h1 h2=>⟨h1,by grind⟩⟩,.inr ⟨by rw[Tl,Mw],λj ad h1 h2=>⟨h1,by grind⟩⟩⟩
theorem OP:∀{ts:List TV} {vs:List Value} {F U:List Nat} (c:Nat) {t:TV},BA w a E blk ts vs F U->ts[c]?=some t->
  ∃v A B C D F1 U1,vs[c]?=some v/\Cj w a E blk t v F1 U1/\F=A++F1++B/\U=C++U1++D/\
   ∀t' F1' U1',Cj w a E blk t' v F1' U1'->BA w a E blk (ts.set c t') vs (A++F1'++B) (C++U1'++D)
 |[],_,_,_,c,t,_,hc=>by simp at hc
 |t0::ts,vs,F,U,0,t,h,hc=>by
  obtain⟨v,b,F1,F2,U1,U2,rfl,rfl,rfl,h1,h2⟩:=h;simp at hc;subst hc;refine⟨v,[],F2,[],U2,F1,U1,rfl,h1,rfl,rfl,λt' F1' U1' hx=>?_⟩;exact⟨v,b,F1',F2,U1',U2,rfl,rfl,rfl,hx,h2⟩
 |t0::ts,vs,F,U,c+1,t,h,hc=>by
  obtain⟨v,b,F1,F2,U1,U2,rfl,rfl,rfl,h1,h2⟩:=h;simp at hc;obtain⟨u,A,B,C,D,G,V,h3,h4,rfl,rfl,hk⟩:=OP c h2 hc;refine⟨u,F1++A,B,U1++C,D,G,V,by simpa using h3,h4,by simp,by simp,λt' F1' U1' hx=>?_⟩;exact⟨v,b,F1,A++F1'++B,U1,C++U1'++D,rfl,by simp,by simp,h1,hk t' F1' U1' hx⟩
theorem B8.out {w0:Base} {cs':List TV} (h:B8 w0 FA UA N w a E blk FS US) (hr:r≠ .hand) {A B F1 U' U1:List Nat} (hF:FS r=A++F1++B) (z:r.mem=true->∀cs0,E.root r=some cs0->cs'.length=cs0.length) (hU':∀b∈U',b∈US r) (a1:∀b∈U1,b∈US r) (q:∀n,r= .slot n->E4 w a E blk ((E.slots n).withCells cs') (a.eval (.tmp n)) (A++B) U') (h0:r.mem=true->∃u T F,w.heap[blk r]?=some (.cells u T (0,0))/\AO w cs' u.toList F U'/\A++B=blk r::F):
  B8 w0 FA UA N w a ((E.setRoot r cs').bump r) blk (Bi (Bi FS r (A++B)) .hand (FS .hand++F1)) (Bi (Bi US r U') .hand (US .hand++U1)):=by
 have h5:∀s,Br w w a a E ((E.setRoot r cs').bump r) blk blk s:=λs=>Sn z s
 have h6:=h.nodup r;rw[hF]at h6
 have d:∀b,b∈A++B->b∈FS r:=λb hb=>by grind
 have c:∀b,b∈F1->b∈FS r:=λb hb=>by grind
 have g:∀b,b∈A++B->b∉F1:=by grind
 have a0:(A++B).Nodup:=by grind
 have h7:F1.Nodup:=h6.sublist<|(List.sublist_append_right A F1).trans<|List.sublist_append_left _ _
 have h8:∀s,s≠Root.hand->Bi (Bi FS r<|A++B) .hand (FS .hand++F1) s=Bi FS r (A++B) s:=λs hs=>AF hs
 have l:∀s,s≠Root.hand->Bi (Bi US r U') .hand (US .hand++U1) s=Bi US r U' s:=λs hs=>AF hs
 have h9:∀s,∀b∈Bi (Bi FS r<|A++B) .hand (FS .hand++F1) s,(s= .hand/\(b∈FS .hand\/b∈F1))\/(s=r/\b∈A++B)\/(s≠ .hand/\s≠r/\b∈FS s):=by
  intro s b hb;by_cases hs:s= .hand
  ·grind [Bf]
  rw[AF hs]at hb;by_cases v:s=r
  ·grind [Bf]
  grind [AF]
 have o:∀s,∀b∈Bi (Bi US r U') .hand (US .hand++U1) s,∃s',b∈US s':=by
  intro s b hb;by_cases hs:s= .hand
  ·grind [Bf]
  rw[AF hs]at hb;by_cases v:s=r
  ·grind [Bf]
  grind [AF]
 have p:∀s,∀b∈Bi (Bi FS r<|A++B) .hand (FS .hand++F1) s,∃s',b∈FS s':=by grind
 constructor
 ·intro n;have i:Root.slot n≠Root.hand:=by simp
  rw[h8 _ i,l _ i,aX];by_cases j:r= .slot n
  ·subst j;rw[Bf,Bf];have:(E.setRoot (.slot n) cs').slots n=(E.slots n).withCells cs':=by simp[St.setRoot,Bi]
   rw[this];exact EW h5 (q n rfl) (λ_ _=>rfl) λ_ _=>rfl
  rw[AF λe=>j e.symm,AF λe=>j e.symm];have:(E.setRoot r cs').slots n=E.slots n:=by
   cases r with
   |slot m=>
    have:n≠m:=λe=>j<|by rw[e]
    simp[St.setRoot,Bi,this]
   |_=>rfl
  rw[this];exact EW h5 (h.slot n) (λ_ _=>rfl) λ_ _=>rfl
 ·intro s hs;have i:s≠Root.hand:=by rintro rfl;cases hs
  rw[h8 _ i,l _ i,Tm];by_cases k:s=r
  ·subst k;rw[Bf,Bf];obtain⟨u,T,F,h1,h2,h3⟩:=h0 hs;cases s<;>simp_all [St.setRoot,Bi,Root.mem]
  rw[AF k,AF k];have:(E.setRoot r cs').boxes s=E.boxes s:=by cases r<;>simp[St.setRoot,Bi,k]
  rw[this];exact h.box s hs
 ·rw[Tm];have:(E.setRoot r cs').boxes .hand=E.boxes .hand:=by cases r<;>simp[St.setRoot,Bi]<;>simp at hr
  rw[this];exact h.nohand
 ·intro s;by_cases hs:s= .hand
  ·subst hs;rw[Bf,BG];exact⟨h.nodup _,h7,λx hx y hy e=>by subst e;exact h.dis r .hand hr x (c x hy) hx⟩
  rw[AF hs];by_cases v:s=r
  ·grind [Bf]
  rw[AF v];exact h.nodup s
 ·intro s s' f b hb hb'
  rcases h9 s b hb with⟨rfl,hx|hx⟩|⟨rfl,hx⟩|⟨h1,h2,hx⟩<;>rcases h9 s' b hb' with⟨rfl,hy|hy⟩|⟨rfl,hy⟩|⟨h3,h4,hy⟩
  ·exact f rfl
  ·exact f rfl
  ·exact h.dis .hand s' (HJ hr) b hx<|d b hy
  ·exact h.dis .hand s' (HJ h3) b hx hy
  ·exact f rfl
  ·exact f rfl
  ·exact g b hy hx
  ·exact h.dis r s' (HJ h4) b (c b hx) hy
  ·exact h.dis s .hand hr b (d b hx) hy
  ·exact g b hx hy
  ·exact f rfl
  ·exact h.dis s s' (HJ h4) b (d b hx) hy
  ·exact h.dis s .hand h1 b hx hy
  ·exact h.dis s r h2 b hx<|c b hy
  ·exact h.dis s s' h2 b hx<|d b hy
  exact h.dis s s' f b hx hy
 ·intro s s' b hb hb';obtain⟨t,ht⟩:=p s b hb;obtain⟨t',ht'⟩:=o s' b hb';exact h.disU t t' b ht ht'
 ·intro s b hb;obtain⟨t,ht⟩:=p s b hb;exact h.inF t b ht
 ·intro s b hb;obtain⟨t,ht⟩:=o s b hb;exact h.inU t b ht
 ·exact h.disA
 ·exact h.os
 ·exact h.tape
 ·exact h.output
 ·exact h.size
 ·exact h.keep
 ·exact h.len
 ·exact h.nodef
 ·exact h.xblk
 ·rw[Gj,Cr];exact h.ambB
 ·rw[Gj,Cr];exact h.ambI
 ·intro n hn;rw[IR,DA]at hn;exact h.frz n hn
 ·exact h.ambF
 rw[Gj,Cr];exact h.pin
theorem B8.handU {w0:Base} {U1:List Nat} (h:B8 w0 FA UA N w a E blk FS US) (hU:∀b∈U1,∃r,b∈US r):
  B8 w0 FA UA N w a E blk FS (Bi US .hand (US .hand++U1)):=by
 have c:∀s,∀b∈Bi US .hand (US .hand++U1) s,∃s',b∈US s':=by
  intro s b hb;by_cases hs:s= .hand
  ·grind [Bf]
  grind [AF]
 constructor
 ·intro n;exact h.slot n
 ·intro r hr;have d:r≠Root.hand:=by rintro rfl;cases hr
  rw[AF d];exact h.box r hr
 ·exact h.nohand
 ·exact h.nodup
 ·exact h.dis
 ·intro r s b hb hb';obtain⟨t,ht⟩:=c s b hb';exact h.disU r t b hb ht
 ·exact h.inF
 ·intro r b hb;obtain⟨t,ht⟩:=c r b hb;exact h.inU t b ht
 ·exact h.disA
 ·exact h.os
 ·exact h.tape
 ·exact h.output
 ·exact h.size
 ·exact h.keep
 ·exact h.len
 ·exact h.nodef
 ·exact h.xblk
 ·exact h.ambB
 ·exact h.ambI
 ·exact h.frz
 ·exact h.ambF
 exact h.pin
theorem gB {w0:Base} (h:B8 w0 FA UA N w a E blk FS US) {cells cs:List TV} (hp:E.place r q j=some (.sl true e sz cells)) (ho:Hq cs q=true) (hr:E.root r=some cs) (hv:pv w a blk r q j=some v):
  ∃F1 U1 G V,BU w (.sl true e sz cells) v F1 U1/\(∀b∈US r,b∈V\/b∈U1)/\
   B8 w0 FA UA N w a ((E.setRoot r (BT cs q λd=>d.set j .junk)).bump r) blk (Bi (Bi FS r G) .hand (FS .hand++F1)) (Bi (Bi US r V) .hand (US .hand++U1)):=by
 have a2:r≠ .hand:=by
  rintro rfl;simp[St.root,h.nohand]at hr
 unfold St.place at hp;rw[hr]at hp;simp only[Aa]at hp;obtain⟨d,hc,hj⟩:=Ac.1 hp
 have i:∀{v:Value},v.oneCell'=true->BU w .junk v [] []:=λh=>by grind [BU]
 have inner:∀{ts:List TV} {vs:List Value} {F U:List Nat} (c:Nat) (q':List Nat),AO w ts vs F U->Hq ts (c::q')=true->Ba ts (c::q')=some d->∀{k:Value},vs[c]?=some k->∀{ad:Addr},Iw w k q'=some ad->w.cell? (ad.add j)=some v->
   ∃A B C D F1 U1,F=A++F1++B/\U=C++U1++D/\BU w (.sl true e sz cells) v F1 U1/\AO w (BT ts (c::q') λd=>d.set j .junk) vs (A++B) (C++D):=by
  intro ts vs F U c q' a5 a3 s k m ad a8 a6;obtain⟨vc,a9,n,e1,sz1,rvs,A,B,C,D,F1,U1,h1,h2,h3,rfl,rfl,h4,h5⟩:=V7 q' c a5 a3 s;rw[m]at h1
  injection h1 with h1
  subst h1;obtain⟨v',A2,B2,C2,D2,F2,U2,h6,h7,rfl,rfl,h8⟩:=DP j h3 hj;have l:v'=v:=by
   obtain⟨ad',n',c',b0,hcell'⟩:=HB h2 j v' h6
   grind
  subst l;refine⟨A++(Bc vc++A2),B2++B,C++C2,D2++D,F2,U2,by simp,by simp,h7,?_⟩;have h9:=h8 w .junk v' [] [] (i<|JU h7) (λ_ _=>rfl) λ_ _=>rfl
  grind [Ib]
 have g:r.mem=true->∃A B C D F1 U1,FS r=A++F1++B/\US r=C++U1++D/\BU w (.sl true e sz cells) v F1 U1/\
   ∃f T F,w.heap[blk r]?=some (.cells f T (0,0))/\AO w (BT cs q λd=>d.set j .junk) f.toList F (C++D)/\A++B=blk r::F:=by
  intro hm;have o:E.boxes r=some cs:=by cases r<;>simp_all [St.root,Root.mem]
  have b1:∀c,AJ w a blk r c=w.cell? ((⟨blk r,0,none⟩:Addr).add c):=by intro c;cases r<;>simp_all [AJ,Root.mem]
  rcases h.box r hm with⟨h1,_⟩|⟨cs',f,T,F,h1,h2,h3,h4⟩
  ·grind
  rw[h1]at o
  injection o with o
  subst o;have a1:∀c u,f.toList[c]?=some u->w.cell? ((⟨blk r,0,none⟩:Addr).add c)=some u:=by grind [World.cell?,Addr.add]
  cases q with
  |nil=>
   simp only[Ba,Ap]at hc;subst hc;obtain⟨v',A,B,C,D,F1,U1,h5,h6,rfl,hU,h7⟩:=DP j h3 hj;have l:v'=v:=by grind [pv]
   subst l;have h8:=h7 w .junk v' [] [] (i<|JU h6) (λ_ _=>rfl) λ_ _=>rfl;rw[Ib h5]at h8;exact⟨blk r::A,B,C,D,F1,U1,by rw[h4];simp,hU,h6,f,T,A++B,h2,by grind [BT],rfl⟩
  |cons c q=>
   obtain⟨k,h5,hv⟩:=Ac.1 hv;obtain⟨ad,h6,h7⟩:=Ac.1 hv;have p:=BF h3;have a7:∃u,f.toList[c]?=some u:=by grind [Ba]
   obtain⟨u,hu⟩:=a7;have:u=k:=by grind
   subst this;obtain⟨A,B,C,D,F1,U1,rfl,hU,h8,h9⟩:=inner c q h3 ho hc hu h6 h7;exact⟨blk r::A,B,C,D,F1,U1,by rw[h4];simp,hU,h8,f,T,A++B,h2,h9,rfl⟩
 have x:∀n,r= .slot n->∃A B C D F1 U1,FS r=A++F1++B/\US r=C++U1++D/\BU w (.sl true e sz cells) v F1 U1/\
   E4 w a E blk ((E.slots n).withCells<|BT cs q λd=>d.set j .junk) (a.eval<|.tmp n) (A++B) (C++D):=by
  intro n hn;subst hn;have hs:=h.slot n;simp only[St.root,Ap]at hr;have a4:∀(vs:List Value) (F U:List Nat),BA w a E blk cs vs F U->(∀c:Nat,(a.eval<|.tmp n).cells[c]?=vs[c]?)->
    ∃A B C D F1 U1,F=A++F1++B/\U=C++U1++D/\BU w (.sl true e sz cells) v F1 U1/\BA w a E blk (BT cs q λd=>d.set j .junk) vs (A++B) (C++D):=by
   intro vs F U hx m
   cases q with
   |nil=>
    simp only[Ba,Ap]at hc;subst hc;obtain⟨v',A,B,C,D,F1,U1,h5,h6,rfl,rfl,h7⟩:=OP j hx hj;have l:v'=v:=by grind [pv,AJ]
    subst l;have:=h7 .junk [] [] ⟨rfl,rfl⟩;exact⟨A,B,C,D,F1,U1,rfl,rfl,h6,by grind [BT]⟩
   |cons c q=>
    have y:∃o1 e1 s1 cl1,cs[c]?=some (.sl o1 e1 s1 cl1):=by grind [Ba]
    obtain⟨o1,e1,s1,cl1,y⟩:=y;obtain⟨v',A,B,C,D,F1,U1,h5,h6,rfl,rfl,h7⟩:=OP c hx y;simp only[pv,AJ]at hv;rw[m,h5]at hv;simp only[Aa]at hv;obtain⟨ad,h8,h9⟩:=Ac.1 hv;have h10:AO w [.sl o1 e1 s1 cl1] [v'] F1 U1:=by simp only[AO];exact⟨v',[],F1,[],U1,[],rfl,by simp,by simp,h6,rfl,rfl,rfl⟩
    have h11:Ba [.sl o1 e1 s1 cl1] (0::q)=some d:=by grind [Ba]
    have h12:Hq [.sl o1 e1 s1 cl1] (0::q)=true:=by grind [Hq]
    obtain⟨A2,B2,C2,D2,F2,U2,rfl,rfl,h13,h14⟩:=inner 0 q h10 h12 h11 (by rfl) h8 h9;refine⟨A++A2,B2++B,C++C2,D2++D,F2,U2,by simp,by simp,h13,?_⟩;simp only[BT,List.getElem?_cons_zero,List.set_cons_zero]at h14;obtain⟨v2,vs2,G1,G2,V1,V2,hh,hF,hU,h15,rfl,rfl,rfl⟩:=h14
    grind [CW,BT]
  cases z:E.slots n with
  |one t=>
   rw[z]at hs hr;simp only[SV.cells]at hr;subst hr;obtain⟨hx,b2⟩:=hs;have b3:t.isJunk=false:=by
    cases t with
    |junk=>
     cases q with
     |nil=>grind [Ba]
     |cons c q=>grind [Ba]
    |_=>rfl
   obtain⟨A,B,C,D,F1,U1,h1,h2,h3,h4⟩:=a4 [a.eval<|.tmp n] (FS<|.slot n) (US<|.slot n) ⟨_,[],_,[],_,[],rfl,by simp,by simp,hx,rfl,rfl,rfl⟩ (λc=>by grind);refine⟨A,B,C,D,F1,U1,h1,h2,h3,?_⟩;have p:(BT [t] q λd=>d.set j .junk).length=1:=by
    cases q with
    |nil=>simp[BT]
    |cons c q=>grind [BT]
   match hu:BT [t] q λd=>d.set j .junk,p with
   |[t'],_=>
    rw[hu]at h4;obtain⟨v2,vs2,G1,G2,V1,V2,hh,hF,hU,h15,rfl,rfl,rfl⟩:=h4
    grind [SV.withCells,E4]
  |agg ts=>
   rw[z]at hs hr;subst hr;obtain⟨vs,m,hx⟩:=hs;obtain⟨A,B,C,D,F1,U1,h1,h2,h3,h4⟩:=a4 vs _ _ hx λc=>by grind [Value.cells]
   grind [SV.withCells,E4]
  |tup ss=>
   rw[z]at hr;simp only[SV.cells]at hr;subst hr
   cases q with
   |nil=>grind [Ba]
   |cons c q=>simp[Ba]at hc
 have a0:r.mem=true->∀cs0,E.root r=some cs0->(BT cs q λd=>d.set j .junk).length=cs0.length:=by
  intro _ cs0 h0;rw[hr]at h0
  injection h0 with h0
  subst h0
  cases q with
  |nil=>simp[BT]
  |cons c q=>grind [BT]
 have fin:∀A B C D F1 U1,FS r=A++F1++B->US r=C++U1++D->BU w (.sl true e sz cells) v F1 U1->
   (∀n,r= .slot n->E4 w a E blk ((E.slots n).withCells<|BT cs q λd=>d.set j .junk) (a.eval<|.tmp n) (A++B) (C++D))->
   (r.mem=true->∃f T F,w.heap[blk r]?=some (.cells f T (0,0))/\AO w (BT cs q λd=>d.set j .junk) f.toList F (C++D)/\A++B=blk r::F)->
   ∃F1 U1 G V,BU w (.sl true e sz cells) v F1 U1/\(∀b∈US r,b∈V\/b∈U1)/\
    B8 w0 FA UA N w a ((E.setRoot r<|BT cs q λd=>d.set j .junk).bump r) blk (Bi (Bi FS r G) .hand<|FS .hand++F1) (Bi (Bi US r V) .hand<|US .hand++U1):=by
  intro A B C D F1 U1 h1 h2 h3 h4 h5;exact⟨F1,U1,A++B,C++D,h3,λb hb=>by{rw[h2]at hb;simp at hb⊢;rcases hb with hb|hb|hb<;>simp[hb]},h.out a2 h1 a0 (λb hb=>by grind) (λb hb=>by grind) h4 h5⟩
 cases hm:r.mem with
 |true=>
  obtain⟨A,B,C,D,F1,U1,h1,h2,h3,h4⟩:=g hm;exact fin A B C D F1 U1 h1 h2 h3 (λn hn=>by subst hn;cases hm) λ_=>h4
 |false=>
  cases r with
  |slot n=>grind
  |hand=>exact absurd rfl a2
  |box n=>cases hm
  |ext n=>cases hm
def CT (w:World) (a:Act) (E:St) (blk:Root->Nat) (r:Root) (F U:List Nat):Prop:=match r with
 | .slot n=>E4 w a E blk (E.slots n) (a.eval<|.tmp n) F U
 | .hand=>True
 |r=>(E.boxes r=none/\F=[]/\U=[])\/∃cs b T F0,E.boxes r=some cs/\w.heap[blk r]?=some (.cells b T (0,0))/\AO w cs b.toList F0 U/\F=blk r::F0
theorem Br.trans {a1 a2 a3:Act} {E2 E3:St} {b1 b2 b3:Root->Nat} (h:Br w1 w2 a1 a2 E1 E2 b1 b2 r) (k:Br w2 w3 a2 a3 E2 E3 b2 b3 r):Br w1 w3 a1 a3 E1 E3 b1 b3 r:=by
 constructor
 ·rcases h.views with h|⟨h1,h2,h3⟩<;>rcases k.views with k|⟨k1,k2,k3⟩
  ·grind
  ·grind
  ·grind
  grind
 rcases h.addrs with h|⟨h1,h2⟩<;>rcases k.addrs with k|⟨k1,k2⟩
 ·grind
 ·grind
 ·grind
 grind
theorem Br.refl {blk:Root->Nat}:Br w w a a E E blk blk r:=
 ⟨.inr ⟨rfl,λ_ _ _ h k=>⟨h,k⟩,λ_ _ _ _ h k=>⟨h,k⟩⟩,.inr ⟨rfl,λ_ _ h k=>⟨h,k⟩⟩⟩
theorem B8.root {w0:Base} (h:B8 w0 FA UA N w a E blk FS US) (r:Root):CT w a E blk r (FS r) (US r):=by
 cases r with
 |slot n=>exact h.slot n
 |hand=>trivial
 |box n=>exact h.box (.box n) rfl
 |ext n=>exact h.box (.ext n) rfl
theorem M6 (hs:∀s,Br w w' a a' E E' blk blk' s) (h:CT w a E blk r F U) (f:∀n,r= .slot n->E'.slots n=E.slots n/\a'.eval (.tmp n)=a.eval (.tmp n)) (e:r.mem=true->E'.boxes r=E.boxes r/\blk' r=blk r) (hF:∀b∈F,w'.heap[b]?=w.heap[b]?) (hU:∀b∈U,w'.heap[b]?=w.heap[b]?):CT w' a' E' blk' r F U:=by
 have d:∀r:Root,r.mem=true->(E'.boxes r=E.boxes r/\blk' r=blk r)->((E.boxes r=none/\F=[]/\U=[])\/∃cs c T F0,E.boxes r=some cs/\w.heap[blk r]?=some (.cells c T (0,0))/\AO w cs c.toList F0 U/\F=blk r::F0)->
   ((E'.boxes r=none/\F=[]/\U=[])\/∃cs c T F0,E'.boxes r=some cs/\w'.heap[blk' r]?=some (.cells c T (0,0))/\AO w' cs c.toList F0 U/\F=blk' r::F0):=by
  intro r hm hb h;obtain⟨h1,h2⟩:=hb;rw[h1,h2]
  rcases h with h|⟨cs,c,T,F0,h3,h4,h5,rfl⟩
  ·exact .inl h
  grind [CA]
 cases r with
 |slot n=>grind [EW,CT]
 |hand=>trivial
 |box n=>exact d (.box n) rfl (e rfl) h
 |ext n=>exact d (.ext n) rfl (e rfl) h
theorem B8.two {w0:Base} {r1 r2:Root} {L1 L2 V1 V2:List Nat} (h:B8 w0 FA UA N w a E blk FS US) (h5:r1≠r2) (a2:(L1++L2).Nodup) (hL:∀b∈L1++L2,(b∈FS r1\/b∈FS r2\/w.heap.size<=b)/\b<w'.heap.size) (hV:∀b∈V1++V2,(∃s,b∈US s)\/((b∈FS r1\/b∈FS r2\/w.heap.size<=b)/\b∉L1++L2/\b<w'.heap.size)) (g:w.heap.size<=w'.heap.size) (a3:w'.os=w.os) (x:w'.tape=w.tape) (h6:w'.output=w.output) (f:∀b,b<w.heap.size->b∉FS r1->b∉FS r2->w'.heap[b]?=w.heap[b]?) (a4:∀s,Br w w' a a' E E' blk blk' s) (o:∀n,Root.slot n≠r1->Root.slot n≠r2->E'.slots n=E.slots n/\a'.eval (.tmp n)=a.eval (.tmp n)) (p:∀s,s.mem=true->s≠r1->s≠r2->E'.boxes s=E.boxes s/\blk' s=blk s) (h1:CT w' a' E' blk' r1 L1 V1) (h2:CT w' a' E' blk' r2 L2 V2) (y:E'.boxes .hand=none) (h7:N<=a'.tmps.size) (h8:a'.defers=[]) (hx:∀i,blk' (.ext i)=blk (.ext i):=by first|(intro i;rfl)|(intro i;simp[Bi])) (hfz:∀n,E'.fz=some n->fZ w0 a' n:=by first|exact h.frz|(intro n hn;(try simp only[IR,DA]at hn);exact h.frz n hn)|(intro n hn;(try simp only[IR,DA]at hn);obtain⟨k1,k2⟩:=SU hn;(try simp only[IR,DA]at k1);exact(h.frz n k1).same (BX k2))) (hamb:E'.amb=E.amb:=by first|rfl|(simp only[Gj,Cr];done)|(simp only[kT,Gj,Cr];done)):
  B8 w0 FA UA N w' a' E' blk' (Bi (Bi FS r1 L1) r2 L2) (Bi (Bi US r1 V1) r2 V2):=by
 have eF1:Bi (Bi FS r1 L1) r2 L2 r1=L1:=by rw[AF h5,Bf]
 have eF2:Bi (Bi FS r1 L1) r2 L2 r2=L2:=Bf _ _ _
 have eF:∀s,s≠r1->s≠r2->Bi (Bi FS r1 L1) r2 L2 s=FS s:=λs h1 h2=>by grind [AF]
 have eU1:Bi (Bi US r1 V1) r2 V2 r1=V1:=by rw[AF h5,Bf]
 have eU2:Bi (Bi US r1 V1) r2 V2 r2=V2:=Bf _ _ _
 have eU:∀s,s≠r1->s≠r2->Bi (Bi US r1 V1) r2 V2 s=US s:=λs h1 h2=>by grind [AF]
 obtain⟨a9,b0,b1⟩:=BG.1 a2
 have b2:∀b∈L1,b∈L1++L2:=λb hb=>Bt _ hb
 have b3:∀b∈L2,b∈L1++L2:=λb hb=>BC _ hb
 have a1:∀s,s≠r1->s≠r2->∀b∈FS s,b∉L1++L2:=by
  intro s c d b hb z
  rcases(hL b z).1 with hx|hx|hx
  ·exact h.dis s r1 c b hb hx
  ·exact h.dis s r2 d b hb hx
  have:=(h.inF s b hb).2;omega
 have h9:∀s,∀b∈US s,b∉L1++L2:=by
  intro s b hb z
  rcases(hL b z).1 with hx|hx|hx
  ·exact h.disU r1 s b hx hb
  ·exact h.disU r2 s b hx hb
  have:=(h.inU s b hb).2;omega
 have h0:∀s,s≠r1->s≠r2->∀b∈FS s,w'.heap[b]?=w.heap[b]? :=λs c d b hb=>f b (h.inF s b hb).2 (λe=>h.dis s r1 c b hb e) λe=>h.dis s r2 d b hb e
 have q:∀s,∀b∈US s,w'.heap[b]?=w.heap[b]? :=λs b hb=>f b (h.inU s b hb).2 (λe=>h.disU r1 s b e hb) λe=>h.disU r2 s b e hb
 have u:∀r,CT w' a' E' blk' r (Bi (Bi FS r1 L1) r2 L2 r) (Bi (Bi US r1 V1) r2 V2 r):=by
  intro r;by_cases j:r=r1
  ·grind
  by_cases k:r=r2
  ·grind
  rw[eF r j k,eU r j k];exact M6 a4 (h.root r) (λn hn=>o n (hn▸j)<|hn▸k) (λhm=>p r hm j k) (h0 r j k)<|q r
 have l:∀s,∀b∈Bi (Bi FS r1 L1) r2 L2 s,b∈L1++L2\/(s≠r1/\s≠r2/\b∈FS s):=by
  intro s b hb;by_cases d:s=r2
  ·grind
  by_cases c:s=r1
  ·grind
  grind
 have v:∀s,∀b∈Bi (Bi US r1 V1) r2 V2 s,(∃t,b∈US t)\/((b∈FS r1\/b∈FS r2\/w.heap.size<=b)/\b∉L1++L2/\b<w'.heap.size):=by
  intro s b hb;by_cases d:s=r2
  ·grind
  by_cases c:s=r1
  ·grind
  grind
 constructor
 ·intro n;exact u<|.slot n
 ·intro r hr;have:=u r;cases r<;>first|exact this|cases hr
 ·exact y
 ·intro s;by_cases d:s=r2
  ·grind
  by_cases c:s=r1
  ·grind
  rw[eF s c d];exact h.nodup s
 ·intro s s' a5 b hb hb';by_cases d:s=r2
  ·subst d;rw[eF2]at hb;by_cases hs1':s'=r1
   ·grind
   grind
  by_cases c:s=r1
  ·subst c;by_cases hs2':s'=r2
   ·grind
   grind
  rw[eF s c d]at hb
  rcases l s' b hb' with hx|⟨_,_,hx⟩
  ·grind
  exact h.dis s s' a5 b hb hx
 ·intro s s' b hb hb'
  rcases l s b hb with hx|⟨c,d,hx⟩
  ·grind
  rcases v s' b hb' with⟨t,hy⟩|⟨hy|hy|hy,_,_⟩
  ·exact h.disU s t b hx hy
  ·exact h.dis s r1 c b hx hy
  ·exact h.dis s r2 d b hx hy
  grind
 ·intro s b hb
  rcases l s b hb with hx|⟨c,d,hx⟩
  ·obtain⟨hy,h3⟩:=hL b hx;refine⟨?_,h3⟩
   rcases hy with hy|hy|hy
   ·exact(h.inF r1 b hy).1
   ·exact(h.inF r2 b hy).1
   exact .inr<|JA h.size hy
  exact⟨(h.inF s b hx).1,Aw (h.inF s b hx).2 g⟩
 ·intro s b hb
  rcases v s b hb with⟨t,hy⟩|⟨hy,_,h3⟩
  ·exact⟨(h.inU t b hy).1,Aw (h.inU t b hy).2 g⟩
  refine⟨.inr ?_,h3⟩
  rcases hy with hy|hy|hy
  ·exact(h.inF r1 b hy).1
  ·exact(h.inF r2 b hy).1
  exact .inr<|JA h.size hy
 ·exact h.disA
 ·exact a3.trans h.os
 ·exact x.trans h.tape
 ·exact h6.trans h.output
 ·exact JA h.size g
 ·intro b hb a0 a6
  have m:∀r,b∉FS r:=λr h4=>by
   rcases(h.inF r b h4).1 with hx|hx
   ·exact a0 hx
   omega
  rw[f b (Aw hb h.size) (m r1)<|m r2];exact h.keep b hb a0 a6
 ·exact h7
 ·exact h8
 ·exact λi=>(hx i).trans<|h.xblk i
 ·rw[hamb];exact h.ambB
 ·rw[hamb]
  refine E.amb.st w w' h.ambI λb hb=>?_
  rw[<-h.ambB]at hb;obtain⟨a7,a8,_⟩:=h.ambF b hb
  have m:∀r,b∉FS r:=λr h4=>by
   rcases(h.inF r b h4).1 with hx|hx
   ·exact a8 hx
   omega
  exact f b (Aw a7 h.size) (m r1)<|m r2
 ·exact hfz
 ·exact h.ambF
 rw[hamb];exact h.pin
theorem KK {w0:Base} {t x:TV} (h:B8 w0 FA UA N w a E blk FS US) (hc:Cj w a E blk t v [] U) (hU:∀b∈U,∃r,b∈US r) (ht:Di E t=some (x,E')):
  ∃FS' US' F1 U1,BU w x v F1 U1/\B8 w0 FA UA N w a E' blk FS' US'/\FS' .hand=FS .hand++F1/\US' .hand=US .hand++U1/\(∀s,Br w w a a E E' blk blk s)/\(∀s b,b∈US s->∃s',b∈US' s'):=by
 have p:∀(s:Root) (b:Nat) (U1:List Nat),b∈US s->∃s',b∈Bi US .hand (US .hand++U1) s':=by
  intro s b U1 hb;by_cases hs:s= .hand
  ·subst hs;exact⟨.hand,by grind [Bf]⟩
  exact⟨s,by grind [AF]⟩
 have copy:∀{x:TV} {U1:List Nat},BU w x v [] U1->(∀b∈U1,∃r,b∈US r)->E'=E->
   ∃FS' US' F1 U1,BU w x v F1 U1/\B8 w0 FA UA N w a E' blk FS' US'/\FS' .hand=FS .hand++F1/\US' .hand=US .hand++U1/\(∀s,Br w w a a E E' blk blk s)/\(∀s b,b∈US s->∃s',b∈US' s'):=by
  rintro x U1 hr u rfl;exact⟨FS,_,[],U1,hr,h.handU u,by simp,by rw[Bf],λs=>Br.refl,λs b hb=>p s b U1 hb⟩
 cases t with
 |int k n=>
  obtain⟨rfl,rfl⟩:=ht;exact copy hc hU rfl
 |bool b=>
  obtain⟨rfl,rfl⟩:=ht;exact copy hc hU rfl
 |str s=>
  obtain⟨rfl,rfl⟩:=ht;exact copy hc hU rfl
 |fn f ta cap=>
  obtain⟨rfl,rfl⟩:=ht;exact copy hc hU rfl
 |adr _=>
  obtain⟨rfl,rfl⟩:=ht;exact copy hc hU rfl
 |hdr _ _ _=>
  obtain⟨rfl,rfl⟩:=ht;exact copy hc hU rfl
 |ptr r ver q j=>simp[Di]at ht
 |junk=>simp[Di]at ht
 |sl o e sz i=>
  simp only[Di]at ht;obtain⟨rfl,rfl⟩:=ht;exact copy hc hU rfl
 |view r ver q j=>
  obtain⟨_,_,_,y⟩:=hc;simp only[Di,Zn]at ht;split at ht
  ·rename_i l;obtain⟨z,_⟩:=y l;split at ht
   ·rename_i e sz i h1;split at ht
    ·rename_i h6;split at ht
     ·rename_i cs d;obtain⟨rfl,rfl⟩:=ht;have h2:Hq cs q=true:=by grind [St.ownAt]
      obtain⟨F1,U1,G,V,hr,h3,m⟩:=gB h h1 h2 d z
      have g:∀s,Br w w a a E ((E.setRoot r<|BT cs q λh4=>h4.set j .junk).bump r) blk blk s:=λs=>Sn (λ_ cs0 h0=>by
       rw[d]at h0
       injection h0 with h0
       subst h0
       cases q with
       |nil=>simp[BT]
       |cons c q=>grind [BT]) s
      refine⟨_,_,F1,U1,hr,m,by rw[Bf],by rw[Bf],g,λs b hb=>?_⟩;by_cases hs:s= .hand
      ·subst hs;exact⟨.hand,by grind [Bf]⟩
      by_cases h5:s=r
      ·subst h5
       rcases h3 b hb with hx|hx
       ·exact⟨s,by grind [AF,Bf]⟩
       exact⟨.hand,by grind [Bf]⟩
      exact⟨s,by grind [AF]⟩
     cases ht
    cases ht
   ·grind [Jt,D7]
   cases ht
  cases ht
theorem Vl:∀(cs:List TV) (q:List Nat),Ba (BT cs q f) q=(Ba cs q).map f
 |cs,[]=>rfl
 |cs,c::q=>by
  simp only[BT,Ba]
  cases h:cs[c]? with
  |none=>simp[h]
  |some t=>
   cases t with
   |sl o e sz cells=>
    have a:c<cs.length:=by grind
    simp only[List.getElem?_set,By,Bw a];exact Vl cells q
   |_=>simp[h]
theorem f8 (hf:∀l,(f l).length=l.length) (cs:List TV) (q:List Nat):(BT cs q f).length=cs.length:=by
 cases q with
 |nil=>exact hf cs
 |cons c q=>grind [BT]
theorem eJ {ver j':Nat} {x:TV} (h:Di E (.view r ver q j)=some (x,E1)) (hj:j'≠j):E1.place r q j'=E.place r q j':=by
 simp only[Di,Zn]at h;split at h
 ·split at h
  ·rename_i e sz cells g;split at h
   ·split at h
    ·rename_i cs a;simp only[Ap,Prod.mk.injEq]at h;obtain⟨rfl,rfl⟩:=h;have c:(BT cs q λb=>b.set j .junk).length=cs.length:=f8 (λl=>by simp) cs q;have f:((E.setRoot r<|BT cs q λb=>b.set j .junk).bump r).root r=some (BT cs q λb=>b.set j .junk):=by
      rw[K6];generalize BT cs q (λb=>b.set j .junk)=X at c
      cases r with
      |slot n=>
       simp only[St.root,Ap]at a;simp only[St.setRoot,St.root,Bi,By,Ap]
       cases d:E.slots n with
       |one t=>
        rw[d]at a;simp only[SV.cells]at a;subst a
        match X,c with
        |[y],_=>rfl
       |agg ts=>rfl
       |tup ss=>
        rw[d]at a;simp only[SV.cells]at a;subst a
        match X,c with
        |[],_=>rfl
      |box n=>exact JR rfl
      |ext n=>exact JR rfl
      |hand=>rfl
     simp only[St.place,f,a,Aa,Vl]
     cases Ba cs q with
     |none=>rfl
     |some b=>grind
    cases h
   cases h
  ·grind
  cases h
 cases h
theorem kN {t x u:TV} (ht:Di E t=some (x,E1)) (hs:∀r,Br w w a a E E1 blk blk r) (h:Cj w a E blk u v F U):Cj w a E1 blk (oP E E1 t u) v F U:=by
 have h0:=LE hs h (λ_ _=>rfl) λ_ _=>rfl
 cases t with
 |view r ver q j=>
  cases u with
  |view r' v' q' j'=>
   simp only[oP];split
   ·rename_i hc;obtain⟨rfl,h1,rfl,h2⟩:=hc;obtain⟨rfl,rfl,h3,h4⟩:=h;obtain⟨h5,h6⟩:=h4 h1;exact⟨rfl,rfl,A8 _,λ_=>⟨h5,by grind [eJ]⟩⟩
   exact h0
  |_=>exact h0
 |_=>exact h0
theorem XK {t x:TV} (ht:Di E t=some (x,E1)) (hs:∀r,Br w w a a E E1 blk blk r):∀{us:List TV} {vs:List Value} {F U:List Nat},BA w a E blk us vs F U->BA w a E1 blk (us.map (oP E E1 t)) vs F U
 |[],_,_,_,h=>h
 |u::us,vs,F,U,h=>by
  obtain⟨v,b,F1,F2,U1,U2,h1,h2,h3,h4,h5⟩:=h;exact⟨v,b,F1,F2,U1,U2,h1,h2,h3,kN ht hs h4,XK ht hs h5⟩
theorem HP {w0:Base}:∀(n:Nat) {ts xs:List TV} {vs:List Value} {U:List Nat} {E E':St} {FS US:Root->List Nat},ts.length=n->B8 w0 FA UA N w a E blk FS US->BA w a E blk ts vs [] U->(∀b∈U,∃r,b∈US r)->DK E ts=some (xs,E')->
  ∃FS' US' F1 U1,AO w xs vs F1 U1/\B8 w0 FA UA N w a E' blk FS' US'/\FS' .hand=FS .hand++F1/\US' .hand=US .hand++U1/\(∀s,Br w w a a E E' blk blk s)/\(∀s b,b∈US s->∃s',b∈US' s')
 |_,[],xs,vs,U,E,E',FS,US,hn,h,hc,hU,ht=>by
  obtain⟨rfl,rfl⟩:=ht;obtain⟨rfl,_,rfl⟩:=hc;simp_all [Br.refl,AO];grind
 |0,t::ts,xs,vs,U,E,E',FS,US,hn,h,hc,hU,ht=>by cases hn
 |n+1,t::ts,xs,vs,U,E,E',FS,US,hn,h,hc,hU,ht=>by
  rw[Mr]at ht;obtain⟨v,d,F1,F2,U1,U2,rfl,hF,rfl,h1,h2⟩:=hc;have hF':=Gm.1 hF.symm;obtain⟨rfl,rfl⟩:=hF';split at ht
  ·rename_i x E1 hx;split at ht
   ·rename_i xs' E2 c;obtain⟨rfl,rfl⟩:=ht;obtain⟨FSa,USa,Fa,Ua,a1,a2,a3,a4,a5,a6⟩:=KK h h1 (λb hb=>hU b<|by simp[hb]) hx
    obtain⟨FSb,USb,Fb,Ub,b1,b2,b3,b4,b5,b6⟩:=HP n (by simpa using hn) a2 (XK hx a5 h2) (λb hb=>by
     obtain⟨r,hr⟩:=hU b<|by simp[hb]
     exact a6 r b hr) c
    refine⟨FSb,USb,Fa++Fb,Ua++Ub,?_,b2,by grind,by grind,λs=>(a5 s).trans<|b5 s,λs b hb=>?_⟩
    ·grind [AO]
    grind
   cases ht
  cases ht
theorem Pv {w0:Base} {s:Root} (h:B8 w0 FA UA N w a E blk FS US) (f:E'.ver s=E.ver s) (g:E'.gen s=E.gen s) (k:E'.root s=E.root s) (e:∀c u,AJ w a blk s c=some u->AJ w' a' blk' s c=some u) (d:s.mem=true->blk' s=blk s) (hF:∀b∈FS s,w'.heap[b]?=w.heap[b]?) (hU:∀b∈US s,w'.heap[b]?=w.heap[b]?):Br w w' a a' E E' blk blk' s:=by
 have o:∀q j,E'.place s q j=E.place s q j:=λq j=>by grind [St.place]
 have i:∀q j ad,pa w a blk s q j=some ad->(E.place s q j).isSome=true->pa w' a' blk' s q j=some ad:=?_;refine⟨.inr ⟨f,λq j v hv hs=>⟨?_,by grind⟩,λq j ad _ hv hs=>⟨i q j ad hv hs,by grind⟩⟩,.inr ⟨g,λj ad hv hs=>⟨i [] j ad hv hs,by grind⟩⟩⟩
 ·cases q with
  |nil=>exact e j v hv
  |cons c q=>
   unfold St.place at hs
   cases hr:E.root s with
   |none=>grind [Hx]
   |some cs=>
    rw[hr]at hs;simp only[Aa]at hs
    cases hc:Ba cs (c::q)with
    |none=>grind [Hx]
    |some row=>
     rw[hc]at hs;obtain⟨rvs,F1,U1,h1,h2,h3,l,h4,h5⟩:=Lg h hr hc
     cases hj:row[j]? with
     |none=>grind [Hx]
     |some t=>
      have hl:=BF h1;have m:=(Ad.1 hj).1;obtain⟨ad,hk⟩:=h5 j _<|Ab<|by omega
      grind [pv]
 intro q j ad hv hs
 cases q with
 |nil=>
  simp only[pa]at hv⊢
  cases s with
  |slot n=>cases hv
  |box n=>simp only[d rfl];exact hv
  |ext n=>simp only[d rfl];exact hv
  |hand=>cases hv
 |cons c q=>
  unfold St.place at hs
  cases hr:E.root s with
  |none=>simp[hr]at hs
  |some cs=>
   rw[hr]at hs;simp only[Aa]at hs
   cases hc:Ba cs (c::q)with
   |none=>simp[hc]at hs
   |some row=>
    rw[hc]at hs;obtain⟨rvs,F1,U1,h1,h2,h3,l,h4,h5⟩:=Lg h hr hc
    cases hj:row[j]? with
    |none=>simp[hj]at hs
    |some t=>
     have hl:=BF h1;have m:=(Ad.1 hj).1;obtain⟨ad',hk⟩:=h5 j _<|Ab<|by omega
     grind [pa]
theorem M7 {s:Root} (d:∀n,s= .slot n->a'.eval (.tmp n)=a.eval (.tmp n)) (b:s.mem=true->blk' s=blk s/\w'.heap[blk s]?=w.heap[blk s]?) (hh:s≠ .hand) (c:Nat) (u:Value):
  AJ w a blk s c=some u->AJ w' a' blk' s c=some u:=by
 cases s with
 |slot n=>grind [AJ]
 |box n=>
  obtain⟨h1,h2⟩:=b rfl
  grind [World.cell?_of_block,Jd,AJ]
 |ext n=>
  obtain⟨h1,h2⟩:=b rfl
  grind [World.cell?_of_block,Jd,AJ]
 |hand=>exact absurd rfl hh
theorem CZ {s:Root} {blk blk':Root->Nat} (b:E'.ver s=E.ver s) (c:E'.gen s=E.gen s) (hr:E.root s=none):Br w w' a a' E E' blk blk' s:=by
 refine⟨.inr ⟨b,λq j v hv hs=>?_,λq j ad _ hv hs=>?_⟩,.inr ⟨c,λj ad hv hs=>?_⟩⟩
 ·grind [St.place,Hx]
 ·grind [St.place]
 grind [St.place]
theorem Ck {w0:Base} {s:Root} (h:B8 w0 FA UA N w a E blk FS US) (c:E'.ver s=E.ver s) (d:E'.gen s=E.gen s) (f:E'.root s=E.root s) (g:∀n,s= .slot n->a'.eval (.tmp n)=a.eval (.tmp n)) (e:s.mem=true->blk' s=blk s) (hF:∀b∈FS s,w'.heap[b]?=w.heap[b]?) (hU:∀b∈US s,w'.heap[b]?=w.heap[b]?):Br w w' a a' E E' blk blk' s:=by
 by_cases hh:s= .hand
 ·subst hh;exact CZ c d<|by simp[St.root,h.nohand]
 by_cases hm:s.mem=true
 ·cases hb:E.boxes s with
  |none=>
   have hr:E.root s=none:=by simp_all [St.root,Root.mem];grind
   grind [CZ]
  |some cs=>
   refine Pv h c d f (M7 g (λ_=>⟨e hm,?_⟩) hh) e hF hU
   rcases h.box s hm with⟨h1,_⟩|⟨cs',i,T,F,_,_,_,h4⟩
   ·grind
   grind
 grind [Pv,M7]
def St.newBox (E:St) (d:Nat) (xs:List TV):St:=let E1:St:={E with boxes:=Bi E.boxes (.box d)<|some xs,ver:=Bi E.ver (.box d)<|E.ver (.box d)+1,gen:=Bi E.gen (.box d) (E.gen (.box d)+1)}
 E1.put (some d) (.one<|.ptr (.box d) (E1.gen<|.box d) [] 0)
theorem B8.newBox {w0:Base} {T:TypeId} (h:B8 w0 FA UA N w a E blk FS US) (hd:d<N) (o:xs≠ []) (hr:AO w xs vs (FS .hand) (US .hand)):
  ∃blk' FS' US',B8 w0 FA UA N (w.alloc (.cells vs.toArray T)) (a.put (some d) (.pointer (some ⟨w.heap.size,0,none⟩))) (E.newBox d xs) blk' FS' US'/\FS' .hand=[]/\US' .hand=[]:=by
 let E1:St:={E with boxes:=Bi E.boxes (.box d)<|some xs,ver:=Bi E.ver (.box d)<|E.ver (.box d)+1,gen:=Bi E.gen (.box d) (E.gen (.box d)+1)}
 let blk1:=Bi blk (.box d) w.heap.size
 let w1:=w.alloc<|.cells vs.toArray T
 have p:w1.heap.size=w.heap.size+1:=by simp[w1]
 have k:w1.heap[w.heap.size]?=some (.cells vs.toArray T (0,0)):=by
  show(w.heap.push _)[w.heap.size]?=_;simp
 have c:∀b,b<w.heap.size->w1.heap[b]?=w.heap[b]? :=λb hb=>Below.heap_alloc _ _ _ hb
 have f:Root.box d≠Root.hand:=by simp
 have g:∀s,Br w w1 a a E E1 blk blk1 s:=by
  intro s;by_cases hs:s= .box d
  ·subst hs;exact⟨.inl (by simp[E1,Bi]),.inl<|by simp[E1,Bi]⟩
  have hv:E1.ver s=E.ver s:=by grind [Bi]
  have hg:E1.gen s=E.gen s:=by grind [Bi]
  refine Ck h hv hg ?_ (λ_ _=>rfl) (λ_=>by grind [Bi]) (λb hb=>c b (h.inF s b hb).2) λb hb=>c b (h.inU s b hb).2;cases s<;>simp_all [E1,St.root,Bi]
 have i:∀b∈FS .hand,b<w.heap.size:=λb hb=>(h.inF .hand b hb).2
 have l:∀b∈US .hand,b<w.heap.size:=λb hb=>(h.inU .hand b hb).2
 have h1:=h.two (w':=w1) (a':=a) (E':=E1) (blk':=blk1) (r1:= .box d) (r2:= .hand) (L1:=w.heap.size::FS .hand) (L2:=[]) (V1:=US .hand) (V2:=[]) f
  (by
   simp only[A6,B6]
   exact⟨λe=>DJ _<|i _ e,h.nodup _⟩)
  (by grind)
  (by grind)
  (by omega) rfl rfl rfl (λb hb _ _=>c b hb) g
  (λn _ _=>⟨rfl,rfl⟩)
  (λs _ hs _=>⟨by grind [Bi],by grind [Bi]⟩)
  (by
   refine .inr ⟨xs,vs.toArray,T,FS .hand,by simp[E1,Bi],by grind [Bi],?_,by simp[blk1,Bi]⟩
   grind [CA])
  trivial (by simp[E1,Bi,h.nohand]) h.len h.nodef
 have j:E4 w1 a E1 blk1 (.one<|.ptr (.box d) (E1.gen<|.box d) [] 0) (.pointer<|some ⟨w.heap.size,0,none⟩) [] []:=by
  have m:E1.stamp (.box d) []=E1.gen (.box d):=rfl
  grind [RE,St.place,St.root,Bi,Ba,pa,Addr.add]
 have h2:=h1.put (d:=d) hd j T6.none;refine⟨blk1,_,_,h2,?_,?_⟩
 ·rfl
 rfl
def SV.plain:SV->Bool
 | .one .junk=>false
 | .tup _=>false
 |_=>true
def Hz (E:St) (s:SV):Option (List TV×St):=if s.plain=true then DK E s.cells else none
theorem Sm (h:E4 w a E blk s v [] U) (hp:s.plain=true):BA w a E blk s.cells v.cells.toList [] U:=by
 cases s with
 |one t=>
  have hj:t.isJunk=false:=by cases t<;>first|rfl|cases hp
  rw[h.2 hj];exact⟨v,[],[],[],U,[],rfl,rfl,by simp,h.1,rfl,rfl,rfl⟩
 |agg cs=>
  obtain⟨vs,rfl,hc⟩:=h
  grind [Value.cells,SV.cells]
 |tup ss=>cases hp
theorem Hy {w0:Base} (h:B8 w0 FA UA N w a E blk FS US) (hs:E4 w a E blk s v [] U) (hU:∀b∈U,∃r,b∈US r) (ht:Hz E s=some (xs,E')):
  ∃FS' US' F1 U1,AO w xs v.cells.toList F1 U1/\B8 w0 FA UA N w a E' blk FS' US'/\FS' .hand=FS .hand++F1/\US' .hand=US .hand++U1/\(∀s,Br w w a a E E' blk blk s)/\(∀s b,b∈US s->∃s',b∈US' s'):=by
 unfold Hz at ht;split at ht
 ·rename_i hp;exact HP _ rfl h (Sm hs hp) hU ht
 cases ht
theorem X4 {w0:Base} (h:B8 w0 FA UA N w a E blk FS US) (hk:∀r,r≠ .slot d->(∀b∈FS r,w'.heap[b]?=w.heap[b]?)/\∀b∈US r,w'.heap[b]?=w.heap[b]?) (r:Root):
  Br w w' a (a.put (some d) v) E (E.put (some d) s) blk blk r:=by
 by_cases hr:r= .slot d
 ·subst hr;exact⟨.inl (by rw[OD];omega),.inr ⟨by rw[Le],λj ad h1 _=>by simp[pa]at h1⟩⟩
 grind [Ck,RD,Le,S4,BX]
theorem B8.newRow {w0:Base} (h:B8 w0 FA UA N w a E blk FS US) (hd:d<N) (hr:AO w xs vs (FS .hand) (US .hand)) (hn:xs.length=n*sz) (hm:n<=maxLen):
  ∃FS' US',B8 w0 FA UA N (w.alloc (.cells vs.toArray e)) (a.put (some d) (.slice (some ⟨w.heap.size,0,none⟩) n n)) (E.put (some d) (.one (.sl true e sz xs))) blk FS' US'/\FS' .hand=[]/\US' .hand=[]:=by
 let w1:=w.alloc<|.cells vs.toArray e
 have o:w1.heap.size=w.heap.size+1:=by simp[w1]
 have f:w1.heap[w.heap.size]?=some (.cells vs.toArray e (0,0)):=by
  show(w.heap.push _)[w.heap.size]?=_;simp
 have c:∀b,b<w.heap.size->w1.heap[b]?=w.heap[b]? :=λb hb=>Below.heap_alloc _ _ _ hb
 have g:∀b∈FS .hand,b<w.heap.size:=λb hb=>(h.inF .hand b hb).2
 have i:∀b∈US .hand,b<w.heap.size:=λb hb=>(h.inU .hand b hb).2
 have hl:=BF hr;have j:=X4 (w':=w1) h (d:=d) (s:= .one (.sl true e sz xs)) (v:= .slice (some ⟨w.heap.size,0,none⟩) n n) λr _=>⟨λb hb=>c b (h.inF r b hb).2,λb hb=>c b (h.inU r b hb).2⟩;have h1:=h.two (w':=w1) (a':=a.put (some d)<|.slice (some ⟨w.heap.size,0,none⟩) n n) (E':=E.put (some d)<|.one<|.sl true e sz xs) (blk':=blk) (r1:= .slot d) (r2:= .hand) (L1:=w.heap.size::FS .hand) (L2:=[]) (V1:=US .hand) (V2:=[]) (by simp)
  (by
   simp only[A6,B6]
   exact⟨λe=>DJ _<|g _ e,h.nodup _⟩)
  (by grind)
  (by grind)
  (by omega) rfl rfl rfl (λb hb _ _=>c b hb) j
  (λm p _=>by simp_all [BX,St.put,Bi])
  (λs hm hs _=>⟨rfl,rfl⟩)
  (by
   have k:(a.put (some d)<|.slice (some ⟨w.heap.size,0,none⟩) n n).eval (.tmp d)= .slice (some ⟨w.heap.size,0,none⟩) n n:=Ft<|Aw hd h.len;have l:(E.put (some d)<|.one<|.sl true e sz xs).slots d= .one (.sl true e sz xs):=by simp[St.put,Bi]
   simp only[CT,k,l,E4,Cj,BU];refine⟨⟨n,vs,FS .hand,⟨by omega,.inr ⟨w.heap.size,n,vs.toArray,rfl,Je _,f,A8 _,hm,by simp;omega,?_⟩⟩,CA hr (λb hb=>c b<|g b hb) λb hb=>c b<|i b hb,by rfl⟩,λ_=>rfl⟩
   grind)
  trivial h.nohand (by rw[MD];exact h.len) (by rw[Js];exact h.nodef)
 grind [Bf]
def Cv (w w':World):Prop:=w.heap.size<=w'.heap.size/\∀b,b<w.heap.size->w'.heap[b]?=w.heap[b]?
theorem Cv.refl:Cv w w:=⟨A8 _,λ_ _=>rfl⟩
theorem Cv.trans (h:Cv w1 w2) (k:Cv w2 w3):Cv w1 w3:=⟨JA h.1 k.1,λb hb=>(k.2 b<|Aw hb h.1).trans<|h.2 b hb⟩
theorem Cv.alloc {o:Obj}:Cv w (w.alloc o):=⟨by simp,λb hb=>Below.heap_alloc _ _ _ hb⟩
def kp (o:Oper):Bool:=match o.op with
 | .store .. =>false
 | .call c=>match c.callee with
  | .builtin .append=>match c.args.toList with
   | .const _::_=>true
   |_=>false
  | .builtin _=>true
  |_=>false
 |_=>true
def C6 (P:Program) (w0:Base) (FA UA:List Nat) (N:Nat) (w:World) (a:Act) (o:Oper) (E':St):Prop:=∃nx w' v blk' FS' US',(execOp a.eval o).run P w= .ok nx w'/\(nx= .value v\/nx= .skip/\v=undef)/\B8 w0 FA UA N w' (a.put o.dst v) E' blk' FS' US'/\FS' .hand=[]/\US' .hand=[]/\(kp o=true->Cv w w')
section
variable (P:Program)
def Jh:List TypeId->List Value->Option (List TV)
 |[],[]=>some []
 |t::ts,v::vs=>match NH P t v,Jh ts vs with
  |some x,some xs=>some (x::xs)
  |_,_=>none
 |_,_=>none
end
def HO (P:Program) (t:TypeId):Option (List TV):=match P.info? t with
 |some i=>match i.zero,P.cellTypes P.depth t with
  |some z,some ts=>if z.cells.size=P.cellsOf t then Jh P ts z.cells.toList else none
  |_,_=>none
 |none=>none
def aR (P:Program) (E:St) (d:Nat) (t:TypeId) (x:Operand):Option St:=match E.val P t x with
 |some s=>match Hz E s with
  |some (xs,E1)=>if xs.isEmpty=true then none else some<|E1.newBox d xs
  |none=>none
 |none=>none
def Tc (P:Program) (E:St) (d:Nat) (t:TypeId):Option St:=match HO P t with
 |some xs=>if xs.isEmpty=true then none else some<|E.newBox d xs
 |none=>none
def RK (P:Program) (E:St) (d:Nat) (t:TypeId) (l c:Operand):Option St:=match P.underlying t,E.cell1 P 0 l,E.cell1 P 0 c with
 |some (.slice e),some<|.int _ n,some (.int _ m)=>match HO P e with
  |some zs=>if n=m/\0<=n/\(P.bytesOf e:Int)*n<=281474976710656/\n<=9223372036854775807 then some (E.put (some d)<|.one<|.sl true e (P.cellsOf e) (List.replicate n.toNat zs).flatten)else none
  |none=>none
 |_,_,_=>none
theorem OX:∀{ts:List TypeId} {vs:List Value} {xs:List TV},Jh P ts vs=some xs->AO w xs vs [] []
 |[],[],xs,h=>by grind [Jh,AO]
 |t::ts,v::vs,xs,h=>by
  simp only[Jh]at h;split at h
  ·rename_i x xs' hx a
   injection h with h
   subst h;exact⟨v,vs,[],[],[],[],rfl,rfl,rfl,(Vm hx).1,OX a⟩
  cases h
 |[],v::vs,xs,h=>by simp[Jh]at h
 |t::ts,[],xs,h=>by simp[Jh]at h
theorem G6 (h:HO P t=some xs):∃i z,P.info? t=some i/\i.zero=some z/\z.cells.size=P.cellsOf t/\AO w xs z.cells.toList [] []:=by grind [OX,HO]
theorem D6:∀{xs ys:List TV} {vs us:List Value} {F G U V:List Nat},AO w xs vs F U->AO w ys us G V->AO w (xs++ys) (vs++us) (F++G) (U++V)
 |[],ys,vs,us,F,G,U,V,h,k=>by grind [AO]
 |x::xs,ys,vs,us,F,G,U,V,h,k=>by
  obtain⟨v,a,F1,F2,U1,U2,rfl,rfl,rfl,h1,h2⟩:=h;exact⟨v,a++us,F1,F2++G,U1,U2++V,rfl,by simp,by simp,h1,D6 h2 k⟩
theorem Jr (h:AO w xs vs [] []):∀n,AO w (List.replicate n xs).flatten (List.replicate n vs).flatten [] []
 |0=>by simp[AO]
 |n+1=>by
  exact D6 h (Jr h n)
theorem C6.box {w0:Base} (h:B8 w0 FA UA N w a E blk FS US) (hF:FS .hand=[]) (hU:US .hand=[]) (ho:o.op= .box t x) (hd:o.dst=some d) (hN:d<N) (he:aR P E d t x=some E'):C6 P w0 FA UA N w a o E':=by
 unfold aR at he;split at he
 ·rename_i s hs;split at he
  ·rename_i xs E1 hx;split at he
   ·cases he
   rename_i b
   injection he with he
   subst he;obtain⟨U,h1,h2⟩:=IF h hs;obtain⟨FS1,US1,F1,U1,h3,h4,h5,h6,_,_⟩:=Hy h h1 h2 hx;rw[hF,Ar]at h5;rw[hU,Ar]at h6;subst h5 h6;obtain⟨blk',FS',US',h7,h8,h9⟩:=h4.newBox (T:=t) hN (by grind) h3;refine⟨.value<|.pointer<|some ⟨w.heap.size,0,none⟩,_,_,blk',FS',US',?_,.inl rfl,by rw[hd];exact h7,h8,h9,λ_=>Cv.alloc⟩;simp_all [execOp,Instr.box,newVar,newRow]
  cases he
 cases he
theorem C6.alloc {w0:Base} (h:B8 w0 FA UA N w a E blk FS US) (hF:FS .hand=[]) (hU:US .hand=[]) (ho:o.op= .alloc t) (hd:o.dst=some d) (hN:d<N) (he:Tc P E d t=some E'):C6 P w0 FA UA N w a o E':=by
 unfold Tc at he;split at he
 ·rename_i xs hx;split at he
  ·cases he
  rename_i b
  injection he with he
  subst he;obtain⟨i,z,hi,hz,hs,hr⟩:=G6 (w:=w) hx;obtain⟨blk',FS',US',h7,h8,h9⟩:=h.newBox (T:=t) (xs:=xs) hN (by grind) (by rw[hF,hU];exact hr);refine⟨.value<|.pointer<|some ⟨w.heap.size,0,none⟩,_,_,blk',FS',US',?_,.inl rfl,by rw[hd];exact h7,h8,h9,λ_=>Cv.alloc⟩;simp_all [run_typeInfo,execOp,Instr.alloc,zeroValue,newVar,newRow]
 cases he
end Go.TI
