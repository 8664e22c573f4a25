/- The evaluator of the model's code on plain values, with its soundness and its walking rules (part 2). -/
import Derived.Test.YtpdhpbldangmbaaGreatDoorAmA
import Derived.Orders
import Derived.LoopN
import Derived.ProofKit
import Derived.SizedLaws
set_option linter.all false
namespace Go.Am
noncomputable section
variable [Laid]
open Go.RowKit
section
variable {P:Program} {h:Hints} {E:Ev} {w:World} {φ:Phi} {S:Nat->Prop} {B:Nat} {H:List Mem}
def Zjn {es z z'} (j:Zge es z=true) (hw: ∀x∈es,x.length=z'): ∀x∈es,x.length=z:=by cases es with|nil=>simp|cons c r=>grind [Zge,Xah]
def Zld {x new X z} (hI:Inv φ H w S B) (U:Zrg H x=some new) (hx:VRel φ w S x X) (R:Zge new z=true):
 (∀w',(Builtin.lenOf X).run P w'= .ok new.length w')/\(∀y∈new,y.length=z)/\ ∃vals,VL φ w S new.flatten vals/\(∀c∈new.flatten,ZcZ c=true)/\
  ∀ (w':World) (k:Nat),k<=new.length->(∀b,b<w.heap.size->w'.heap[b]? =w.heap[b]?)->(Builtin.firstCells z k X).run P w'= .ok (vals.take (k*z)).toArray w':=by
 have I: ∀es,elems H x=some es->new=es->(∀w',(Builtin.lenOf X).run P w'= .ok new.length w')/\(∀y∈new,y.length=z)/\ ∃vals,VL φ w S new.flatten vals/\(∀c∈new.flatten,ZcZ c=true)/\
  ∀ (w':World) (k:Nat),k<=new.length->(∀b,b<w.heap.size->w'.heap[b]? =w.heap[b]?)->(Builtin.firstCells z k X).run P w'= .ok (vals.take (k*z)).toArray w':=by
  intro es aa ab;subst ab;obtain⟨a,c,rfl,hle,J⟩:=ZlT hI aa hx;refine⟨λw'=>rfl, ?_, ?_⟩;rcases J with rfl|⟨b,o,z',_,hw,_⟩;simp;exact Zjn R hw;rcases J with rfl|⟨b,o,z',rfl,hw,hv⟩;refine⟨[],by simp[VL],sM,λw' k hk _=> ?_⟩;have:k=0:=(by simpa using hk);subst this;cases a<;>simp[Builtin.firstCells,loadCells,loadCellsFrom];(let⟨vs,h1,h2,h3⟩:=VC.vals (VE.flat hv));refine⟨vs,h1,h2,λw' k hk hb=> ?_⟩;have hlen:vs.length=new.length*z:=(by rw[VL.length h1,Za5 new (Zjn R hw)]);have ad:(vs.take (k*z)).length=k*z:=(by rw[Xaz,hlen];exact XaU (Xbk _ hk));have:=run_loadCells_list (P:=P) w' ⟨b,o,none⟩ (vs.take (k*z)) (λj v hj=>by rw[Addr.add_lit];have ae:vs[j]? =some v:=(by grind);have C:=h3 j v ae;rw[Zg8 (hb b (World.block_lt_of_cell? w _ C))];exact C);rw[ad]at this;simpa[Builtin.firstCells]using this
 unfold Zrg at U;split at U;·rename_i b;cases U;simp[VRel]at hx;subst hx;have hlen:(byteCells b).length=b.size:=(by simp[byteCells]);refine⟨λw'=>by rw[hlen];rfl,Zjn (z':=1) R (by intro y hy;simp[byteCells,XaT]at hy;obtain⟨q,_,rfl⟩:=hy;rfl),(b.data.toList.map λq=>(q.toNat:Int)).map (Value.int .u8), ?_, ?_, ?_⟩;have hf:(byteCells b).flatten=(b.data.toList.map λq=>(q.toNat:Int)).map (PV.int .u8):=(by simp only[byteCells];rw[Zez (λq:UInt8=>PV.int .u8 q.toNat),XbG];rfl);rw[hf];exact Zsb _;intro c J;simp[byteCells,List.mem_flatten]at J;obtain⟨l,⟨q,_,rfl⟩,J⟩:=J;simp at J;subst J;rfl;·intro w' k hk _;have af:b.size=0\/z=1:=(by cases hd:byteCells b with|nil=>left;rw[<-hlen,hd];rfl|cons c r=>right;rw[hd]at R;simp[Zge,beq_iff_eq]at R;have:c∈byteCells b:=(by rw[hd];exact Xah);simp[byteCells,XaT]at this;obtain⟨q,_,rfl⟩:=this;exact R.symm);have ag:k*z=k:=(by rcases af with h0|rfl;have:k=0:=oM;subst this;simp;simp);rw[ag];simp[Builtin.firstCells,Sem.run_pure];congr 1;apply Array.ext';simp[Array.toList_extract];rfl
 exact I new U rfl
def Zii {t} (hn:Zf9 P t=true):t=none\/ ∃t1 d,t=some t1/\P.underlying t1=some d/\ ∀k,d≠ .int k:=by cases t with|none=>exact .inl rfl|some t=>right;simp[Zf9]at hn;cases hu:P.underlying t with|none=>simp[hu]at hn|some d=>grind
def Zfk {ts ty t e z n sLen sCap base I} {vals:List Value} {w'} (ht:ts[0]? =some t) (hu:P.underlying t=some (.slice e)) (hz:Zbi P e=some z) (hn:Zf9 P (ts[1]?)=true)
 (hlen: ∀w',(Builtin.lenOf I).run P w'= .ok n w') (J:(Builtin.firstCells z n I).run P w= .ok vals.toArray w) (C:sLen+n<=sCap)
 (j:(match base with|some a=>storeCells (a.add (sLen*z)) vals|none=>pure ():Sem Unit).run P w= .ok () w'):
 (Builtin.append_ ts ty #[.slice base sLen sCap,I]).run P w= .ok (.slice base (sLen+n) sCap) w':=by
 have R:(#[Value.slice base sLen sCap,I]:Array Value)[0]? =some (.slice base sLen sCap):=rfl;have U:(#[Value.slice base sLen sCap,I]:Array Value)[1]? =some I:=rfl;unfold Builtin.append_;simp[ht,R,U,Sem.run_bind,run_underlying hu,Result.andThen_ok,ZaR hz];have fin: ∀s:Sem Unit,s.run P w= .ok () w'->(do s;pure (Value.slice base (sLen+n) sCap):Sem Value).run P w= .ok (.slice base (sLen+n) sCap) w':=by intro s hs;simp[hs]
 rcases Zii hn with h1|⟨t1,d,h1,aa,hd⟩;simp[h1,Sem.run_bind,Sem.run_pure,Result.andThen_ok,Xbh,if_false,if_true,hlen,Bool.not_false,J,if_pos C];cases base with|none=>simp[Sem.run_pure]at j|-;cases j;rfl|some a=>simp[Sem.run_bind,List.toList_toArray]at j|-;rw[j];rfl
 simp[h1,Sem.run_bind,run_underlying aa,Result.andThen_ok];have ab: ∀b:Bool,b=false->(pure b:Sem Bool).run P w= .ok false w:=by rintro _ rfl;rfl
 cases d<;>first
   |exact absurd rfl (hd _)
   |(simp[Sem.run_bind,Sem.run_pure,Result.andThen_ok,Xbh,if_false,if_true,hlen,Bool.not_false,J,if_pos C]
     cases base with
     |none=>simp[Sem.run_pure]at j|-;cases j;rfl
     |some a=>simp[Sem.run_bind,List.toList_toArray]at j|-;rw[j];rfl)
def Zjx {ts ty t e z by_ n sLen sCap base I zv} {olds vals:List Value} {i:TypeInfo} (ht:ts[0]? =some t) (hu:P.underlying t=some (.slice e)) (hi:P.info? e=some i) (hz:i.size=z) (ae:i.bytes=by_)
 (af:i.zero=some zv) (hn:Zf9 P (ts[1]?)=true)
 (hlen: ∀w',(Builtin.lenOf I).run P w'= .ok n w') (J:(Builtin.firstCells z n I).run P w.drew= .ok vals.toArray w.drew) (R:(Builtin.firstCells z sLen (.slice base sLen sCap)).run P w.drew= .ok olds.toArray w.drew) (ak:sCap<sLen+n)
 (al:0<by_) (hb:(sLen+n)*by_<=140737488355328):
 (Builtin.append_ ts ty #[.slice base sLen sCap,I]).run P w= .ok (.slice (some ⟨w.heap.size,0,none⟩) (sLen+n) (grownCap w (sLen+n) sCap e))
  (w.drew.alloc (.cells (olds.toArray++vals.toArray++Builtin.zeroCells zv.cells (grownCap w (sLen+n) sCap e-(sLen+n))) e)):=by
 have ag:(#[Value.slice base sLen sCap,I]:Array Value)[0]? =some (.slice base sLen sCap):=rfl;have ah:(#[Value.slice base sLen sCap,I]:Array Value)[1]? =some I:=rfl;have ai:(sizeOf e).run P w= .ok z w:=by simp[sizeOf,typeInfo,hi,hz]
 have U: ∀w,(typeInfo e).run P w= .ok i w:=by intro w;simp[typeInfo,hi]
 have aa: ∀w,(zeroValue e).run P w= .ok zv w:=by intro w;simp[zeroValue,typeInfo,hi,af]
 have j: ¬sLen+n<=sCap:=oM;have ab: ¬i.bytes=0:=oM;have C: ¬Builtin.nextslicecap (sLen+n) sCap*i.bytes>2^48:=by have:=growslice_fits (need:=sLen+n) (old:=sCap) (bytes:=by_) oM hb;rw[ae];have e:(2:Nat)^48=281474976710656:=dC;omega
 have ad:(choose (.appendCap (sLen+n) sCap e)).run P w= .ok (grownCap w (sLen+n) sCap e) w.drew:=by rw[run_choose];rfl
 unfold Builtin.append_;simp only[ht,ag,ah,Sem.run_bind,run_underlying hu,Result.andThen_ok,ai];rcases Zii hn with h1|⟨t1,d,h1,aj,hd⟩;simp only[h1,Sem.run_bind,Sem.run_pure,Result.andThen_ok,Xbh,if_false,if_true,hlen,Bool.not_false,if_neg j,U,ab,or_self,and_false,if_neg C,ad,run_askRoom,R,J,aa,newRow,run_newObj];rfl;simp only[h1,Sem.run_bind,run_underlying aj,Result.andThen_ok]
 cases d<;>first
   |exact absurd rfl (hd _)
   |(simp only[Sem.run_bind,Sem.run_pure,Result.andThen_ok,Xbh,if_false,if_true,hlen,Bool.not_false,if_neg j,U,ab,or_self,and_false,if_neg C,ad,run_askRoom,R,J,aa,newRow,run_newObj]
     rfl)
def Zq4 z n:Builtin.zeroCells z n=madeCells z (n*z.size):=rfl
def Zlz z n:(Builtin.zeroCells z n).size=n*z.size:=by rw[Zq4,size_madeCells]
def Znf {e z n sLen} {zv:Value} {id es olds vals} (hI:Inv φ H w S B) (J:φ id=none) (hH:H[id]? =some (.row es z true)) cap (I:sLen+n<=cap)
 (hw: ∀c∈es,c.length=z) (hl:es.length=sLen+n) (U:VL φ w S es.flatten (olds++vals)) (h1: ∀c∈es.flatten,ZcZ c=true) (R:zv.cells.size=z):
 ∃φ' S',Inv φ' H (w.drew.alloc (.cells (olds.toArray++vals.toArray++Builtin.zeroCells zv.cells (cap-(sLen+n))) e)) S' B/\Evo H.length B φ S w φ' S' (w.drew.alloc (.cells (olds.toArray++vals.toArray++Builtin.zeroCells zv.cells (cap-(sLen+n))) e))/\
  VRel φ' (w.drew.alloc (.cells (olds.toArray++vals.toArray++Builtin.zeroCells zv.cells (cap-(sLen+n))) e)) S' (.ref id 0 (sLen+n) (sLen+n)) (.slice (some ⟨w.heap.size,0,none⟩) (sLen+n) cap)/\ ∀i,i≠id->φ' i=φ i:=by
 have hlen:(olds++vals).length=(sLen+n)*z:=by rw[VL.length U,Za5 es hw,hl]
 have C:(olds.toArray++vals.toArray++Builtin.zeroCells zv.cells (cap-(sLen+n))).size=cap*z:=by simp[List.size_toArray,Zlz,R];rw[Xal]at hlen;rw[hlen,<-Xbs];congr 1;omega
 let⟨φ',S',h2,h3,h4,h5⟩:=hI.add (ZfI w (.cells (olds.toArray++vals.toArray++Builtin.zeroCells zv.cells (cap-(sLen+n))) e)) J hH (Zem w _) hw U h1
  (by intro j v hj
      grind)
  (by rw[hl,C];exact Xbk _ I) (by intro j hj;simp)
 refine⟨φ',S',h2,h3, ?_,h5⟩;simp only[VRel];grind
def Zm5 {id i es new z l vals} (hI:Inv φ H w S B) (hl:φ id=some l) (hm:H[id]? =some (.row es z true)) (hw: ∀c∈new,c.length=z) (hv:VL φ w S new.flatten vals) (ho: ∀c∈new.flatten,ZcZ c=true)
 (hle:i+new.length<=es.length):
 (storeCells ⟨l.b,l.o+i*z,none⟩ vals).run P w= .ok () (w.setCells l.b (l.o+i*z) vals)/\Inv φ (H.set id (.row (splice es i new) z true)) (w.setCells l.b (l.o+i*z) vals) S B/\Evo H.length B φ S w φ S (w.setCells l.b (l.o+i*z) vals):=by
 have C:=hI.row id l es z true hl hm;have J:=Za5 new hw;have ag:=Za5 es C.wid;have ah:vals.length=new.length*z:=by rw[VL.length hv,J]
 have af:=C.top;have ai:i*z+new.length*z<=es.length*z:=by rw[<-Xbs];exact Xbk _ hle
 have aa: ∀x∈splice es i new,x.length=z:=λx R=>(ZiL R).elim (C.wid x) (hw x)
 have ab:=ZhL _ _ _ hle;have ad:(splice es i new).flatten=splice es.flatten (i*z) new.flatten:=by unfold splice;rw[List.flatten_append,List.flatten_append,J];have ht:(es.take i).flatten=es.flatten.take (i*z):=(by have h1:es.flatten=(es.take i).flatten++(es.drop i).flatten:=(by rw[<-List.flatten_append,Xbc]);have h2:(es.take i).flatten.length=i*z:=(by rw[Za5 _ (λx R=>C.wid x (XaY R)),Xaz,XaU oM]);grind);have hd:(es.drop (i+new.length)).flatten=es.flatten.drop (i*z+new.length*z):=(by have h1:es.flatten=(es.take (i+new.length)).flatten++(es.drop (i+new.length)).flatten:=(by rw[<-List.flatten_append,Xbc]);have h2:(es.take (i+new.length)).flatten.length=i*z+new.length*z:=(by rw[Za5 _ (λx R=>C.wid x (XaY R)),Xaz,XaU oM,Xbs]);grind);rw[ht,hd]
 refine⟨?_, ?_⟩;have:=run_storeCells_cells (P:=P) l.b (l.o+i*z) vals 0 w
   (λj I=>by rw[show l.o+i*z+0+j=l.o+(i*z+j)from by omega];exact(ZeI C _ oM).1)
   (λj I=>by rw[show l.o+i*z+0+j=l.o+(i*z+j)from by omega];exact(ZeI C _ oM).2) (Zoy hv ho)
 simpa using this;refine hI.patch (es':=splice es i new) hl (λ_ _=>rfl) (.inr hl) (by simp[(hI.live id l hl).2.2]) ?_ sM (ZcC _ _ _ _) (ZdA _ _ _ _) (λb hb=>Zb7 _ _ _ _ _ hb)
   (C.own rfl) (hI.live id l hl).1 (hI.live id l hl).2.1 ?_ (C.set (λ_ _ h=>h) ad aa ab hv ho oM)
 intro j l' I _;exact .inl (by rw[XaL (λe=>I e.symm)]);intro j lj m I ae U ha;rw[XaL (λe=>I e.symm)]at U;exact hI.apart j id lj l m _ I ae hl U hm ha rfl
def Zoj {ts ty t e z by_ zero s x v sv xv new H'} (hI:Inv φ H w S B) (ht:ts[0]? =some t) (hu:P.underlying t=some (.slice e)) (hz:Zbi P e=some z) (bf:ZlH P e=some by_)
 (bw:Zek P e=some zero) (bl:Zrg H x=some new) (hn:Zf9 P (ts[1]?)=true) (a6:0<by_) (b9:0<z) (bx:zero.length=z) (hh:Zge new z=true) (C:ZbQ H z by_ s new=some (v,H')) (hs:VRel φ w S s sv) (hx:VRel φ w S x xv):
 ∃u w' φ' S',(Builtin.append_ ts ty #[sv,xv]).run P w= .ok u w'/\Inv φ' H' w' S' B/\Evo H.length B φ S w φ' S' w'/\VRel φ' w' S' v u/\ ∀i,i<H.length->φ' i=φ i:=by
 let⟨hlen,a1,vals,hv,ho,bm⟩:=Zld (P:=P) hI bl hx hh
 let⟨i,zv,hi,bn,bo,_⟩:=Zdn (w:=w) (φ:=φ) (S:=S) bw
 have a7:i.size=z:=by unfold Zbi at hz;rw[hi]at hz;simpa using hz
 have a8:i.bytes=by_:=by unfold ZlH at bf;rw[hi]at bf;simpa using bf
 have ba:zv.cells.size=z:=by have:=VL.length bo;simpa[bx]using this
 have bz:vals.length=new.length*z:=by rw[VL.length hv,Za5 new a1]
 have bg:vals.take (new.length*z)=vals:=Xax oM;have af:=bm w new.length (Xae _) (λ_ _=>rfl);have al:=bm w.drew new.length (Xae _) (λ_ _=>rfl);rw[bg]at af al;unfold ZbQ at C;split at C;simp only[VRel]at hs;subst hs;by_cases R:new.isEmpty=true;rw[if_pos R]at C;cases C;have:=List.isEmpty_iff.1 R;subst this;have bh:vals=[]:=by simpa[VL]using hv
 subst bh;exact⟨_,w,φ,S,Zfk (base:=none) (sCap:=0) ht hu hz hn hlen af sM rfl,hI,Evo.refl _ _ _ _ _,by simp only[VRel];rfl,λ_ _=>rfl⟩;rw[if_neg R]at C;let⟨hb,C⟩:=Zau C
 cases C;have bp:0<new.length:=by cases new with|nil=>simp at R|cons _ _=>simp
 have hr:=Zjx (ts:=ts) (ty:=ty) (sLen:=0) (sCap:=0) (base:=none) (olds:=[]) ht hu hi a7 a8 bn hn hlen al (by simp[Builtin.firstCells]) oM a6 (by simpa using hb);have b0:Inv φ (H++ [Mem.row new z true]) w S B:=hI.reheap (λj l hj=> .inl (by rw[Xan (hI.live j l hj).2.2])) sM;have an:φ H.length=none:=by cases hc:φ H.length with|none=>rfl|some l=>have:=(hI.live _ l hc).2.2;omega
 have bj:=grownCap_ge w (0+new.length) 0 e;let⟨φ',S',h2,h3,h4,h5⟩:=Znf (e:=e) (zv:=zv) (sLen:=0) (n:=new.length) (olds:=[]) (vals:=vals) (id:=H.length) b0 an sM (grownCap w (0+new.length) 0 e) bj a1 sM (by simpa using hv) ho ba
 refine⟨_,_,φ',S',hr,h2,h3.mono sM, ?_,λi hi=>h5 i oM⟩;simpa using h4;rename_i id j n room;split at C;rename_i es z' hm;let⟨⟨b1,hle⟩,C⟩:=Zau C
 subst b1;simp only[VRel]at hs;obtain⟨l,ad,cp,hl,rfl,ao,U,aa⟩:=hs;have bq:=XaK ao U;have hr:=hI.row id l es z' true hl hm;by_cases R:new.isEmpty=true;rw[if_pos R]at C;cases C;have:=List.isEmpty_iff.1 R;subst this;have bh:vals=[]:=by simpa[VL]using hv
 subst bh;refine⟨_,w,φ,S,Zfk (base:=some ad) ht hu hz hn hlen af (by simpa using bq) rfl,hI,Evo.refl _ _ _ _ _, ?_,λ_ _=>rfl⟩;simp only[VRel];exact⟨l,ad,cp,hl,sM,ao,U,aa⟩;rw[if_neg R]at C;have bp:0<new.length:=by cases new with|nil=>simp at R|cons _ _=>simp
 by_cases ab:n+new.length<=room;rw[if_pos ab]at C;let⟨ca,C⟩:=Zau C
 cases C;rcases aa with⟨h0,b2⟩|⟨rfl,ai⟩;omega;let⟨h1,h2,h3⟩:=Zm5 (P:=P) (i:=j+n) (new:=new) hI hl hm a1 hv ho oM
 have e1:l.o+j*l.z+n*z'=l.o+(j+n)*z':=by rw[hr.zs,Xbs];omega
 have aq:=Zfk (ts:=ts) (ty:=ty) (base:=some ⟨l.b,l.o+j*l.z,none⟩) (w':=w.setCells l.b (l.o+(j+n)*z') vals) ht hu hz hn hlen af (XaK ab U) (by show(storeCells ((⟨l.b,l.o+j*l.z,none⟩:Addr).add (n*z')) vals).run P w=_;rw[Addr.add_lit,e1];exact h1);refine⟨_,_,φ,S,aq,h2,h3, ?_,λ_ _=>rfl⟩;simp only[VRel];exact⟨l,_,cp,hl,rfl,ab,U, .inr ⟨rfl,ai⟩⟩;rw[if_neg ab]at C;let⟨hb,C⟩:=Zau C
 cases C;have b8:=(hI.live id l hl).2.2;have an:φ H.length=none:=by cases hc:φ H.length with|none=>rfl|some l=>have:=(hI.live _ l hc).2.2;omega
 have hold:VE φ w S ((es.drop j).take n) l.b (l.o+j*l.z):=by rw[hr.zs];exact VE.take n (VE.drop j hr.wid oM hr.cells)
 have ae: ∀c∈(es.drop j).take n,c.length=z':=λc hc=>hr.wid c (XbE (XaY hc))
 have I:((es.drop j).take n).length=n:=by rw[Xaz,XbC];omega
 let⟨olds,bs,b3,b4⟩:=VC.vals (VE.flat hold)
 have ar:olds.length=n*z':=by rw[VL.length bs,Za5 _ ae,I]
 have au: ∀c∈(es.drop j).take n++new,c.length=z':=λc hc=>(XaO.1 hc).elim (ae c) (a1 c)
 have ag:Inv φ (H.set id .dead++ [Mem.row ((es.drop j).take n++new) z' true]) w S B:=hI.reheap (λk lk J=>by have av:=(hI.live k lk J).2.2;rw[Xan (by simpa using av)];by_cases ak:k=id;subst ak;right;simp[av];left;rw[XaL (λe=>ak e.symm)]) sM;have aw:(H.set id .dead++ [Mem.row ((es.drop j).take n++new) z' true])[H.length]? =some (.row ((es.drop j).take n++new) z' true):=by rw[Xaw sM];simp
 by_cases bb:n+new.length<=cp;rcases aa with⟨h0,b2⟩|⟨rfl,ai⟩;omega;have ax:=hr.zs;rw[ax]at ai;have cb:(j+n)*z'+new.length*z'<=l.top:=by rw[<-Xbs];exact XaK (Xbk _ oM) ai
 have e1:l.o+j*l.z+n*z'=l.o+(j+n)*z':=by rw[ax,Xbs];omega
 have ah: ∀k,k<vals.length->(w.cell? ⟨l.b,l.o+(j+n)*z'+k,none⟩).isSome=true/\w.frozen? ⟨l.b,l.o+(j+n)*z'+k,none⟩=false:=by intro k J;have:=ZeI hr ((j+n)*z'+k) oM;rwa[<-XbL]at this
 have b5:=run_storeCells_cells (P:=P) l.b (l.o+(j+n)*z') vals 0 w (λk J=>by simpa using(ah k J).1) (λk J=>by simpa using(ah k J).2) (Zoy hv ho);have aq:=Zfk (ts:=ts) (ty:=ty) (base:=some ⟨l.b,l.o+j*l.z,none⟩) (w':=w.setCells l.b (l.o+(j+n)*z') vals) ht hu hz hn hlen af bb (by show(storeCells ((⟨l.b,l.o+j*l.z,none⟩:Addr).add (n*z')) vals).run P w=_;rw[Addr.add_lit,e1];simpa using b5);let l':Loc:=⟨l.b,l.o+j*z',z',l.top-j*z'⟩
 let φ':Phi:=λk=>if k=H.length then some l' else φ k
 have hp: ∀k lk,φ k=some lk->φ' k=some lk:=by intro k lk J;show(if k=H.length then _ else φ k)=_;rw[if_neg];exact J;rintro rfl;rw[an]at J;cases J
 have bk:=hr.own rfl;have bt: ∀k,S k->S k/\(w.setCells l.b (l.o+(j+n)*z') vals).heap[k]? =w.heap[k]? :=λk J=>⟨J,Zb7 _ _ _ _ _ (by rintro rfl;exact bk J)⟩
 have cc:(j+n)*z'=j*z'+n*z':=Xbs _ _ _
 have aj:=ag.patch (w':=w.setCells l.b (l.o+(j+n)*z') vals) (id:=H.length) (l:=l') (φ':=φ') (H':=H.set id .dead++ [Mem.row ((es.drop j).take n++new) z' true]) (if_pos rfl) (λk J=>if_neg J) (.inl an) aw (λ_ _ _ _=> .inl rfl) (Xae _)
       (ZcC _ _ _ _) (ZdA _ _ _ _) (λb hb=>Zb7 _ _ _ _ _ hb) bk (hI.live id l hl).1 (hI.live id l hl).2.1
       (by
        intro k lk m J bu ay ha;have av:=(hI.live k lk bu).2.2;rw[Xan (by simpa using av)]at ay;by_cases ak:k=id;subst ak;simp[av]at ay;subst ay;simp[Mem.alive]at ha;rw[XaL (λe=>ak e.symm)]at ay;exact hI.apart k id lk l m _ ak bu hl ay hm ha rfl)
       ⟨rfl,by simp only[Xal,I];show(n+new.length)*z'<=l.top-j*z';rw[Xbs];omega,au,by
        refine VE.append ae (VE.of_flat ?_) ?_;have az:=VC.keep (φ':=φ') hp bt _ _ (.inl (by rw[Za5 _ ae,I,ax];omega)) (VE.flat hold);rw[ax]at az;exact az;rw[I];show VE φ' _ S new l.b (l.o+j*z'+n*z');rw[show l.o+j*z'+n*z'=l.o+(j+n)*z' from by omega];exact VE.of_flat (VC.fresh hp bt hv ho (λk J=>(ah k J).1)),by
        (let⟨cur,e',fz,h1,h2,h3⟩:=hr.blk);(let⟨bc,h4,h5⟩:=Zey l.b vals (l.o+(j+n)*z') w cur e' fz h1);refine⟨bc,e',fz,h4, ?_,λcd k J=>by rw[World.frozen?_setCells];exact h3 rfl k oM⟩;show l.o+j*z'+(l.top-j*z')<=bc.size;omega,λ_=>bk,λh=>by cases h⟩
 refine⟨_,_,φ',S,aq,aj.1,aj.2.mono sM, ?_,λi hi=>if_neg oM⟩;simp only[VRel];refine⟨l',_,cp,if_pos rfl,rfl,Xae _,bb, .inr ⟨by show _=(⟨l.b,l.o+j*z'+0*z',none⟩:Addr);rw[ax];simp, ?_⟩⟩;show(0+cp)*z'<=l.top-j*z';have:(j+cp)*z'=j*z'+cp*z':=Xbs _ _ _;simp only[Xag];omega;have b6:(Builtin.firstCells z' n (.slice (some ad) n cp)).run P w.drew= .ok olds.toArray w.drew:=by rcases aa with⟨h0,_⟩|⟨rfl,_⟩;subst h0;have:=Xbv.1 (by simpa using ar);subst this;simp[Builtin.firstCells,loadCells,loadCellsFrom];have:=run_loadCells_list (P:=P) w.drew ⟨l.b,l.o+j*l.z,none⟩ olds (λk v J=>by rw[Addr.add_lit];exact b4 k v J);rw[ar]at this;simpa[Builtin.firstCells]using this
 have b7:=Zjx (ts:=ts) (ty:=ty) (sLen:=n) (sCap:=cp) (base:=some ad) (olds:=olds) ht hu hi a7 a8 bn hn hlen al b6 oM a6 hb;have bj:=grownCap_ge w (n+new.length) cp e
 let⟨φ',S',h2,h3,h4,h5⟩:=Znf (e:=e) (zv:=zv) (sLen:=n) (n:=new.length) (olds:=olds) (vals:=vals) (id:=H.length) ag an aw (grownCap w (n+new.length) cp e) bj au (by simp[I])
      (by rw[List.flatten_append];exact VL.append bs hv) (by intro c hc;rw[List.flatten_append]at hc;exact(XaO.1 hc).elim (b3 c) (ho c)) ba
 exact⟨_,_,φ',S',b7,h2,h3.mono sM,h4,λi hi=>h5 i oM⟩;cases C;cases C
end
variable [Laid]
section
variable {P:Program} {h:Hints} {E:Ev} {w:World} {φ:Phi} {S:Nat->Prop} {B:Nat} {H:List Mem}
def ZBg {H:List Mem} {id m} (h:H[id]? =some m):H.set id m=H:=by apply XaR;grind
def ZhG {ts ty s x v sv xv H'} (hI:Inv φ H w S B) (j:Zet P H ts s x=some (v,H')) (hs:VRel φ w S s sv) (hx:VRel φ w S x xv):
 ∃u w' φ' S',(Builtin.append_ ts ty #[sv,xv]).run P w= .ok u w'/\Inv φ' H' w' S' B/\Evo H.length B φ S w φ' S' w'/\VRel φ' w' S' v u/\ ∀i,i<H.length->φ' i=φ i:=by
 let⟨t,ht,j⟩:=Zam j
 let⟨e,he,j⟩:=Zam j
 let⟨z,hz,j⟩:=Zam j
 let⟨by_,I,j⟩:=Zam j
 let⟨zero,J,j⟩:=Zam j
 let⟨new,C,j⟩:=Zam j
 let⟨⟨hn,R,U,aa,hh⟩,j⟩:=Zau j
 exact Zoj hI ht (Zgx he) hz I J C hn R U aa hh j hs hx
def Zs0 {ts ty d x v dv xv H'} (hI:Inv φ H w S B) (j:ZvS P H ts d x=some (v,H')) (hd:VRel φ w S d dv) (hx:VRel φ w S x xv):
 ∃u w',(Builtin.copy_ ts ty #[dv,xv]).run P w= .ok u w'/\Inv φ H' w' S B/\Evo H.length B φ S w φ S w'/\VRel φ w' S v u:=by
 unfold ZvS at j;let⟨t,ht,g1⟩:=Zam j
 let⟨e,he,g2⟩:=Zam g1
 let⟨z,hz,g3⟩:=Zam g2
 let⟨src,aa,g4⟩:=Zam g3
 let⟨⟨an,hh⟩,g5⟩:=Zau g4
 clear j g1 g2 g3 g4;have j:=g5;clear g5;have hu:=Zgx he;let⟨hlen,ab,vals,hv,ho,ae⟩:=Zld (P:=P) hI aa hx hh
 have ao:(#[dv,xv]:Array Value)[0]? =some dv:=rfl;have aq:(#[dv,xv]:Array Value)[1]? =some xv:=rfl;split at j;cases j;simp[VRel]at hd;subst hd;have I:=ae w 0 (Xak _) (λ_ _=>rfl);refine⟨.int .i64 0,w, ?_,hI,Evo.refl _ _ _ _ _,ZbG _ _⟩;have af:Nat.min src.length 0=0:=Nat.min_zero _;simp[Builtin.copy_,ht,run_underlying hu,hlen,ZaR hz,I];rfl;rename_i id i n room;split at j;rename_i es z' hm;let⟨⟨ai,hle⟩,j⟩:=Zau j
 subst ai;cases j;simp only[VRel]at hd;obtain⟨l,ad,cp,hl,rfl,J,R,U⟩:=hd;have al:=XaK J R;have hr:=hI.row id l es z' true hl hm;have hk:min src.length n<=src.length:=Nat.min_le_left _ _;have ar:min src.length n<=n:=Nat.min_le_right _ _;have I:=ae w (min src.length n) hk (λ_ _=>rfl);have ag:(src.take n).length=min src.length n:=by rw[Xaz,Nat.min_comm]
 have ah:(src.take n).flatten=src.flatten.take (min src.length n*z'):=by have h1:src.flatten=(src.take n).flatten++(src.drop n).flatten:=(by rw[<-List.flatten_append,Xbc]);have h2:(src.take n).flatten.length=min src.length n*z':=(by rw[Za5 _ (λx hx=>ab x (XaY hx)),ag]);rw[h1,<-h2,List.take_left' rfl]
 have aj:VL φ w S (src.take n).flatten (vals.take (min src.length n*z')):=by rw[ah];exact VL.take _ hv
 have C: ∀w',(storeCells ad (vals.take (min src.length n*z'))).run P w= .ok () w'->(Builtin.copy_ ts ty #[.slice (some ad) n cp,xv]).run P w= .ok (.int .i64 (min src.length n:Nat)) w':=by intro w' ak;have af:Nat.min src.length n=min src.length n:=rfl;simp[Builtin.copy_,ht,run_underlying hu,hlen,ZaR hz,I,ak];rfl
 rcases U with⟨h0,_⟩|⟨rfl,_⟩;subst h0;have e0:src.take 0=[]:=rfl;have e1:min src.length 0=0:=Nat.min_zero _;refine⟨_,w,C w (by rw[e1];simp[storeCells]), ?_,Evo.refl _ _ _ _ _,ZbG _ _⟩;rw[e0,Zmu,ZBg hm];exact hI;let⟨h1,h2,h3⟩:=Zm5 (P:=P) (i:=i) hI hl hm (λc hc=>ab c (XaY hc)) aj (λc hc=>ho c (by rw[ah]at hc;exact XaY hc)) (by rw[ag];omega)
 rw[hr.zs]at C|-;exact⟨_,_,C _ h1,h2,h3,ZbG _ _⟩;cases j;cases j
def ZpT {ts:Array TypeId} {ty:TypeId} {d v:PV} {dv:Value} {H':List Mem} (hI:Inv φ H w S B) (j:Zmt P H ts d=some (v,H')) (hd:VRel φ w S d dv):
 ∃u w',(Builtin.clear_ ts ty #[dv]).run P w= .ok u w'/\Inv φ H' w' S B/\Evo H.length B φ S w φ S w'/\VRel φ w' S v u:=by unfold Zmt at j;cases j
def ZjK {key d} (hd:Zgs key d=true) {v vv}: ∀ {es es':List (PV×PV)} {C:List MapEntry} (i:Nat),Zdy key v es=some es'->VM φ w S es C->VRel φ w S v vv->
 (∃j u,Instr.findNow d key.val C i=some (some (i+j,u))/\ ∃e,C[j]? =some e/\e.key=key.val/\VM φ w S es' (C.modify j λe=>{e with key:=key.val,val:=vv}))\/
 (Instr.findNow d key.val C i=some none/\ ∀b,VM φ w S es' (C++ [{key:=key.val,val:=vv,born:=b}]))
 | [],es',C,i,h,hv,hx=>by simp[Zdy,Xaj]at h;subst h;simp[VM]at hv;subst hv;exact .inr ⟨rfl,λb=>⟨_,[],rfl,ZD0 _,hx,rfl⟩⟩
 |(k,u)::es,es',C,i,h,hv,hx=>by obtain⟨e,l',rfl,hk,R,hr⟩:=hv;rw[Zdy]at h;cases hb:ZEX key k with|none=>rw[hb]at h;cases h|some b=>rw[hb,Xad]at h;(let⟨J,h0⟩:=ZmR hd hb hk);cases b with|true=>cases h;left;exact⟨0,e.val,by simp[Instr.findNow,J],e,rfl,h0 rfl,⟨_,l',rfl,ZD0 _,hx,hr⟩⟩|false=>cases I:Zdy key v es with|none=>simp[I]at h|some aa=>simp[I,Xau]at h;subst h;have U:Instr.findNow d key.val (e::l') i=Instr.findNow d key.val l' (i+1):=(by simp[Instr.findNow,J]);rcases ZjK hd (i+1) I hr hx with⟨j,u',J,e2,h2,h3,h4⟩|⟨J,h2⟩;(·left;refine⟨j+1,u',by rw[U,J];congr 3;omega,e2,by simpa using h2,h3, ?_⟩;exact⟨e,_,rfl,hk,R,h4⟩);right;exact⟨by rw[U,J],λb=>⟨e,_,rfl,hk,R,h2 b⟩⟩
def Zsf (key:Ky):Instr.sameBits 10000 key.val key.val=true:=by cases key with|s b=>have j:(b==b)=true:=(by rw[Zpj];exact beq_self_eq_true _);simp[Ky.val,Instr.sameBits,j]|i k n=>simp[Ky.val,Instr.sameBits]
def Inv.patchMap {w' id l es es' U clock} (hI:Inv φ H w S B) (hl:φ id=some l) (hm:H[id]? =some (.map es)) (aa:w'.os=w.os/\w'.tape=w.tape/\w'.output=w.output) (ag:w'.heap.size=w.heap.size)
 (J: ∀b,b≠l.b->w'.heap[b]? =w.heap[b]?) (ai:w'.heap[l.b]? =some (.map U clock)) (hv:VMc φ w S es' U.toList clock):Inv φ (H.set id (.map es')) w' S B/\Evo H.length B φ S w φ S w':=by
 let⟨aj,_⟩:=hI.map id l es hl hm
 have hs: ∀b,S b->S b/\w'.heap[b]? =w.heap[b]? :=λb hb=>⟨hb,J b (by rintro rfl;exact aj hb)⟩
 have aq:=(hI.live id l hl).2.2;have C: ∀j m,(H.set id (.map es'))[j]? =some m->(j=id/\m= .map es')\/(j≠id/\H[j]? =some m):=by grind
 have ak: ∀j lj m,j≠id->φ j=some lj->H[j]? =some m->m.alive=true->lj.b≠l.b:=λj lj m hj ao ad ha=>hI.apart j id lj l m _ hj ao hl ad hm ha rfl
 refine⟨⟨?_, ?_, ?_, ?_,λb hb=>by rw[ag];exact hI.stable b hb,by rw[ag];exact hI.base,Laid.mono _ _ _ _ hs hI.laid⟩,λi x _ h=>h,hs,λ_ _ I=>I,aa.1,aa.2.1,aa.2.2,by rw[ag];exact Xae _,λk hk=>J k (by have:=(hI.live id l hl).1;omega)⟩;intro i x I;have:=hI.live i x I;grind;intro i x ah z m I ab;rcases C i _ ab with⟨_,R⟩|⟨ae,R⟩;cases R;exact(hI.row i x ah z m I R).mono (λ_ _ h=>h) hs (J _ (ak i x _ ae I R rfl)) (λy=>y);intro i x ah I ab;rcases C i _ ab with⟨rfl,R⟩|⟨ae,R⟩;cases R;rw[hl]at I;cases I;exact⟨aj,U,clock,ai,VMc.mono (λ_ _ h=>h) hs hv⟩;let⟨h3,en,cl,h4,h5⟩:=hI.map i x ah I R
 exact⟨h3,en,cl,by rw[J _ (ak i x _ ae I R rfl)];exact h4,VMc.mono (λ_ _ h=>h) hs h5⟩;intro i j x y m m' af I hy ab ad ha al;rcases C i _ ab with⟨rfl,R⟩|⟨ae,R⟩;rcases C j _ ad with⟨rfl,_⟩|⟨an,h2⟩;exact absurd rfl af;exact hI.apart _ _ x y _ _ af I hy hm h2 rfl al;rcases C j _ ad with⟨rfl,_⟩|⟨an,h2⟩;exact hI.apart _ _ x y _ _ af I hy R hm ha rfl;exact hI.apart _ _ x y _ _ af I hy R h2 ha al
def Zg3 {r I j c C} (J:w.heap[r]? =some (.map I c)):(setObj r (.map j C)).run P w= .ok () {w with heap:=w.heap.setIfInBounds r (.map j C)}:=by simp[setObj,Sem.run,J]
def Zng {t m k x mv kv xv H' v} (hI:Inv φ H w S B) (ab:Zsl P H t (some m) (some k) (some x)=some (v,H')) (hm:VRel φ w S m mv) (hk:VRel φ w S k kv) (hx:VRel φ w S x xv):
 ∃w',(Instr.mapUpdate t mv kv xv).run P w= .ok () w'/\v= .tup []/\Inv φ H' w' S B/\Evo H.length B φ S w φ S w':=by
 unfold Zsl at ab;let⟨e,he,g1⟩:=Zam ab
 simp at g1;let⟨key,af,g2⟩:=Zam g1
 clear ab g1;have aj:=Znh af;subst aj;have hk:=ZEt hk;subst hk;let⟨kt,hu,I⟩:=Zne he
 cases hd:Zgs key e.1 with
 |false=>rw[hd]at g2;cases g2
 |true=>
 rw[hd,cond_true]at g2;split at g2;rename_i id;split at g2;rename_i es U;cases hp:Zdy key x es with
   |none=>simp[hp]at g2
   |some es'=>
    simp[hp,Xau]at g2;obtain⟨rfl,rfl⟩:=g2;simp[VRel]at hm;obtain⟨l,hl,rfl⟩:=hm;(let⟨_,C,clock,hb,hv,ad,ag⟩:=hI.map id l es hl U);have ak:=(hI.live id l hl).2.1;have ah:(getObj l.b).run P w= .ok (.map C clock) w:=(by simp[getObj,Sem.run,hb]);have aa: ∀ (J:Array MapEntry) (c':Nat),VMc φ w S es' J.toList c'->Inv φ (H.set id (.map es')) {w with heap:=w.heap.setIfInBounds l.b (.map J c')} S B/\Evo H.length B φ S w φ S {w with heap:=w.heap.setIfInBounds l.b (.map J c')}:=by intro J c' al;refine hI.patchMap hl U ⟨rfl,rfl,rfl⟩ sM (λb R=> ?_) ?_ al;simp only[Array.getElem?_setIfInBounds];rw[if_neg (λe=>R e.symm)];simp;simp[ak]
    rcases ZjK hd 0 hp hv hx with⟨j,u,h1,e2,h2,h3,h4⟩|⟨h1,h2⟩;have ae:(Instr.findKey kt key.val C.toList).run P w= .ok (some (0+j,u)) w:=(by simp[Instr.findKey,run_underlying I,h1]);have hs:=aa (C.modify (0+j) λe=>{e with key:=key.val,val:=xv}) clock (by
      rw[Array.toList_modify,Xag];refine⟨h4,λe he=> ?_, ?_⟩;(let⟨i,hi⟩:=List.mem_iff_getElem?.1 he);rw[List.getElem?_modify]at hi;(let⟨e0,h5,h6⟩:=Option.map_eq_some_iff.1 hi);have:=ad e0 (XaC h5);subst h6;split<;>exact this;have e0: ∀l:List MapEntry,(l.modify j λe=>{e with key:=key.val,val:=xv}).map (·.born)=l.map (·.born):=λl=>by apply XaR;intro i;rw[XaD,XaD,List.getElem?_modify];cases l[i]? with|none=>rfl|some x=>show some (if j=i then _ else x).born=some x.born;split<;>rfl
      rw[e0];exact ag)
    have an:C[0+j]? =some e2:=(by rw[Xag];simpa using h2);have ai:(Instr.keyThatStays (((C[0+j]?).map (·.key)).getD key.val) key.val).run P w= .ok key.val w:=(by rw[an];simp[Option.getD_some,h3,Instr.keyThatStays,Zsf]);refine⟨_, ?_,rfl,hs.1,hs.2⟩;simp only[Instr.mapUpdate,Sem.run_bind,run_underlying hu,Result.andThen_ok,ah,Zdl I hd,ae,ai,Zg3 hb];have ae:(Instr.findKey kt key.val C.toList).run P w= .ok none w:=(by simp[Instr.findKey,run_underlying I,h1]);have hs:=aa (C.push {key:=key.val,val:=xv,born:=clock}) (clock+1) (by rw[Array.toList_push];refine⟨h2 clock,λe he=> ?_, ?_⟩;rcases XaO.1 he with he|he;exact Nat.lt_succ_of_lt (ad e he);rw[Xav.1 he];exact XaA _;rw[Xbb,List.nodup_append];refine⟨ag,sM,λa ha b R e=> ?_⟩;obtain⟨x,hx,rfl⟩:=XaT.1 ha;have h5:=ad x hx;rw[List.map_singleton,Xav]at R;have ao:b=clock:=R;have e2:=e;omega);refine⟨_, ?_,rfl,hs.1,hs.2⟩;simp[Instr.mapUpdate,Sem.run_bind,run_underlying hu,Result.andThen_ok,ah,Zdl I hd,ae,Zg3 hb]
 cases g2;cases g2
variable {tm:List (Nat × PV)} {N:Nat} {o:Oper} {a:Act} {K:Act->World->Prop} {Q:Exit->Act->World->Prop}
def ZgQ {w'} (h:(execOp a.eval o).run P w= .ok .skip w') (j:K (a.put o.dst undef) w'):o.wp P a w K Q:=by unfold Oper.wp;rw[h];exact j
theorem ZaV H i j:(freeze1 H i)[j]? =H[j]?\/(i=j/\ ∃es z m,H[j]? =some (.row es z m)/\(freeze1 H i)[j]? =some (.row es z false)):=by unfold freeze1;grind
def Zcx H i:(freeze1 H i).length=H.length:=by grind [freeze1]
theorem ZaX: ∀ (ids:List Nat) (H:List Mem),(freeze ids H).length=H.length
 | [],H=>rfl
 |i::ids,H=>by show(freeze ids (freeze1 H i)).length=_;rw[ZaX ids,Zcx]
def Inv.freeze1 (hI:Inv φ H w S B) i: ∃S',Inv φ (freeze1 H i) w S' B/\Evo H.length B φ S w φ S' w/\(∀l es z m,φ i=some l->H[i]? =some (.row es z m)->S' l.b):=by
 cases hl:φ i with
 |none=>refine⟨S,⟨λj l h=>by rw[Zcx];exact hI.live j l h, ?_, ?_, ?_,hI.stable,hI.base,hI.laid⟩,Evo.refl _ _ _ _ _,λl es z m h=>by cases h⟩;intro j l es z m J hm;rcases ZaV H i j with h|⟨rfl,_⟩;exact hI.row j l es z m J (by rw[<-h];exact hm);rw[hl]at J;cases J;intro j l es J hm;rcases ZaV H i j with h|⟨rfl,_⟩;exact hI.map j l es J (by rw[<-h];exact hm);rw[hl]at J;cases J;intro j k x y m m' ae hx hy hm ah ha af;rcases ZaV H i j with h|⟨rfl,_⟩;rcases ZaV H i k with h'|⟨rfl,_⟩;exact hI.apart j k x y m m' ae hx hy (by rw[<-h];exact hm) (by rw[<-h'];exact ah) ha af;rw[hl]at hy;cases hy;rw[hl]at hx;cases hx
 |some l=>
  by_cases ab: ∃es z m,H[i]? =some (.row es z m)
  (let⟨es,z,m,hm⟩:=ab);(let S':Nat->Prop:=λb=>S b\/b=l.b);have hs: ∀b,S b->S' b/\w.heap[b]? =w.heap[b]? :=λb hb=>⟨.inl hb,rfl⟩
  have hB:=(hI.live i l hl).1;have aa: ∀ (j:Nat) (m':Mem),(Am.freeze1 H i)[j]? =some m'->m'.alive=true-> ∃m2,H[j]? =some m2/\m2.alive=true:=by intro j m' J ha;rcases ZaV H i j with h|⟨rfl,U,z2,m2,h1,h2⟩;grind;exact⟨_,h1,rfl⟩
  refine⟨S',⟨λj l h=>by rw[Zcx];exact hI.live j l h, ?_, ?_, ?_, ?_,hI.base,Laid.mono _ _ _ _ hs hI.laid⟩,⟨λ_ _ _ h=>h,hs,λb hb h=>h.elim id (λh=>oM),Below.refl _ _⟩,λl' es z m h _=>by cases h;exact .inr rfl⟩;intro j lj U z2 m2 J C;rcases ZaV H i j with h|⟨rfl,ai,z3,m3,h1,h2⟩;have R:H[j]? =some (.row U z2 m2):=(by rw[<-h];exact C);by_cases ad:i=j;subst ad;rw[hl]at J;cases J;have I:=hI.row i l U z2 m2 hl R;refine⟨I.zs,I.top,I.wid,VE.mono (λ_ _ h=>h) hs _ _ _ rfl I.cells,I.blk, ?_,λ_=> .inr rfl⟩;intro aj;have:(Am.freeze1 H i)[i]? =some (.row es z false):=(by unfold Am.freeze1;rw[hm];simp[(Xaf.1 hm).1]);rw[this]at C;cases C;cases aj;refine(hI.row j lj U z2 m2 J R).mono (λ_ _ h=>h) hs rfl ?_;rintro(h'|h');exact h';exact absurd h' (hI.apart j i lj l _ _ (λe=>ad e.symm) J hl R hm rfl rfl);rw[h2]at C;cases C;rw[hl]at J;cases J;have I:=hI.row i l _ _ m3 hl h1;exact⟨I.zs,I.top,I.wid,VE.mono (λ_ _ h=>h) hs _ _ _ rfl I.cells,by(let⟨cur,e,fz,h1,h2,_⟩:=I.blk);exact⟨cur,e,fz,h1,h2,λh=>by cases h⟩,λh=>by(cases h),λ_=> .inr rfl⟩;intro j lj U J C;rcases ZaV H i j with h|⟨rfl,ai,z3,m3,h1,h2⟩;have R:H[j]? =some (.map U):=(by rw[<-h];exact C);have ad:j≠i:=(by rintro rfl;rw[hm]at R;cases R);(let⟨h4,ag,clock,h5,h6⟩:=hI.map j lj U J R);refine⟨?_,ag,clock,h5,VMc.mono (λ_ _ h=>h) hs h6⟩;rintro(h'|h');exact h4 h';exact absurd h' (hI.apart j i lj l _ _ ad J hl R hm rfl rfl);rw[h2]at C;cases C;intro j k x y m1 m2 ae hx hy ak C ha af;(let⟨ao,h1,al⟩:=aa j m1 ak ha);(let⟨aq,h2,an⟩:=aa k m2 C af);exact hI.apart j k x y _ _ ae hx hy h1 h2 al an;rintro b (hb|rfl);exact hI.stable b hb;exact(hI.live i l hl).2.1;have:Am.freeze1 H i=H:=(by unfold Am.freeze1;split;rename_i es z m hm;exact absurd ⟨es,z,m,hm⟩ ab;rfl);rw[this];exact⟨S,hI,Evo.refl _ _ _ _ _,λl es z m _ hm=>absurd ⟨es,z,m,hm⟩ ab⟩
def Inv.freeze: ∀ (ids:List Nat) {H:List Mem} {S:Nat->Prop},Inv φ H w S B-> ∃S',Inv φ (freeze ids H) w S' B/\Evo H.length B φ S w φ S' w/\(∀i∈ids,∀l es z m,φ i=some l->H[i]? =some (.row es z m)->S' l.b)
 | [],H,S,hI=>⟨S,hI,Evo.refl _ _ _ _ _,sM⟩
 |i::ids,H,S,hI=>by(let⟨S1,I,J,R⟩:=hI.freeze1 i);(let⟨S2,U,C,h6⟩:=Inv.freeze ids I);refine⟨S2,U,J.trans (by rw[Zcx]at C;exact C), ?_⟩;intro j hj l es z m hl hm;rcases XaF.1 hj with rfl|hj;exact(C.st _ (R l es z m hl hm)).1;grind [ZaV]
end
variable [Laid]
def Sub (H Hs:List Mem):Prop:= ∀ (id:Nat) (m:Mem),H[id]? =some m-> ∃j,Hs[id]? =some j/\simM m j
section
variable {P:Program} {h:Hints} {E:Ev} {H Hs:List Mem}
def Sub.row (C:Sub H Hs) {id:Nat} {es:List (List PV)} {z:Nat} {m:Bool} (h:H[id]? =some (.row es z m)): ∃j,Hs[id]? =some (.row es z j):=by
 let⟨j,J,I⟩:=C id _ h
 cases j<;>simp[simM]at I;grind
def Sub.map (C:Sub H Hs) {id:Nat} {es:List (PV×PV)} (h:H[id]? =some (.map es)):Hs[id]? =some (.map es):=by
 let⟨I,J,j⟩:=C id _ h
 cases I<;>simp[simM]at j;subst j;exact J
theorem Zv0 (C:Sub H Hs) {x:PV} {es:List (List PV)} (he:elems H x=some es):elems Hs x=some es:=by
 cases x<;>simp[elems]at he|- <;>try exact he
 rename_i id i n room;split at he;rename_i hm;let⟨I,j⟩:=C.row hm
 rw[j];exact he;cases he
def ZrI (C:Sub H Hs) {t:TypeId} {x p:PV} (he:Zcf P H t x=some p):Zcf P Hs t x=some p:=by
 cases x<;>simp[Zcf]at he|- <;>try exact he
 split at he;rename_i hm;let⟨I,j⟩:=C.row hm
 rw[j];exact he;cases he
def ZsG (j:Sub H Hs) {s d:TypeId} {x p:PV} (he:Zdx P H s d x=some p):Zdx P Hs s d x=some p:=by
 unfold Zdx at he|-;split at he;exact he;exact he;exact he;exact he;split at he;let⟨es,C,I⟩:=Zam he
 grind [Zv0];cases he;cases he
def Zps (I:Sub H Hs) {t:TypeId} {x p:PV} {lo hi C:Option PV} (he:ZcE P H t x lo hi C=some p):ZcE P Hs t x lo hi C=some p:=by
 unfold ZcE at he|-;split at he;exact he;exact he;let⟨z,J,he⟩:=Zam he
 let⟨⟨l,k,x⟩,R,he⟩:=Zam he
 simp[J,R,Xad];simp[]at he;split at he;rename_i hm;let⟨U,j⟩:=I.row hm
 rw[j];exact he;cases he;exact he;cases he
def Zj8 (I:Sub H Hs) {t:TypeId} {x C p:PV} (he:Zar P H t x C=some p):Zar P Hs t x C=some p:=by
 unfold Zar at he|-;split at he;split at he;exact he;let⟨z,J,he⟩:=Zam he
 simp only[J,Xad];let⟨R,he⟩:=Zau he
 rw[if_pos R];split at he;rename_i hm;let⟨U,j⟩:=I.row hm
 rw[j];exact he;cases he;exact he;exact he;cases he;cases he
theorem Zwe (j:Sub H Hs) {t:TypeId} {x p:PV} (he:ZeW P H t x=some p):ZeW P Hs t x=some p:=by
 unfold ZeW at he|-;split at he<;>try exact he
 split at he;rename_i hm;rw[j.map hm];exact he;cases he
theorem ZvR (j:Sub H Hs) {x:PV} {es:List (PV×PV)} (he:Zo5 H x=some es):Zo5 Hs x=some es:=by
 cases x<;>simp[Zo5]at he|- <;>try exact he
 split at he;rename_i hm;rw[j.map hm];exact he;cases he
def Zof (j:Sub H Hs) {t:TypeId} {x k p:PV} {ok:Bool} (he:Zd3 P H t x k ok=some p):Zd3 P Hs t x k ok=some p:=by
 unfold Zd3 at he|-;let⟨e,C,he⟩:=Zam he
 let⟨key,I,he⟩:=Zam he
 cases hd:Zgs key e.1 with
 |false=>rw[hd]at he;cases he
 |true=>
 rw[hd,cond_true]at he;let⟨es,J,he⟩:=Zam he
 grind [ZvR]
def ZnN (j:Sub H Hs) {b ts vs p} (he:Zcg P H b ts vs=some p):Zcg P Hs b ts vs=some p:=by unfold Zcg at he|-;split at he;grind [Zwe];exact he;exact he;cases he
theorem Zir {α β:Type} {f g}: ∀ {l:List α} {r:List β},(∀x∈l,∀b,f x=some b->g x=some b)->Za3 f l=some r->Za3 g l=some r
 | [],r,_,h=>h
 |x::l,r,j,h=>by obtain⟨b,s,C,I,rfl⟩:=ZaM h;rw[ZhI,j x Xah b C];simp only[Xad];rw[Zir (λy J=>j y (Xai _ J)) I];rfl
theorem Zdg {α β:Type} {f g:α->List β}: ∀ {l:List α},(∀x∈l,f x=g x)->l.flatMap f=l.flatMap g
 | [],_=>rfl
 |x::l,h=>by rw[Xbn,Xbn,h x Xah,Zdg λy j=>h y (Xai _ j)]
theorem Zes {α β:Type} {f}: ∀ {l:List α} {r:List β},Za3 f l=some r-> ∀x∈l,∃b,f x=some b
 | [],r,_,x,hx=>by simp at hx
 |y::l,r,h,x,hx=>by obtain⟨b,s,j,C,rfl⟩:=ZaM h;rcases XaF.1 hx with rfl|hx;exact⟨b,j⟩;exact Zes C x hx
theorem ZoG (hs:Sub H Hs): ∀ (n:Nat) (v q:PV),exp n H v=some q->exp n Hs v=some q/\rch n Hs v=rch n H v
 |0,v,q,h=>by simp[exp]at h
 |n+1,v,q,h=>by
  have ih:=ZoG hs n;have j: ∀l r,Za3 (exp n H) l=some r->Za3 (exp n Hs) l=some r/\l.flatMap (rch n Hs)=l.flatMap (rch n H):=by grind [Zir,Zdg,Zes]
  cases v with|ref id i l room=>simp[exp,rch]at h|-;split at h;(·rename_i es z m hm;(let⟨m',I⟩:=hs.row hm);(let⟨hle,h⟩:=Zau h);cases he:Za3 (Za3 (exp n H)) ((es.drop i).take l)with|none=>simp[he]at h|some qs=>have J:=Zir (λx _ b hb=>(j x b hb).1) he;refine⟨by simp only[I,if_pos hle,J];rw[he]at h;exact h, ?_⟩;simp only[I,hm];congr 1;exact Zdg λx hx=>by(let⟨b,hb⟩:=Zes he x hx);exact(j x b hb).2);cases h|ptr id i r=>simp[exp,rch]at h|-;split at h;rename_i es z m hm;(let⟨m',I⟩:=hs.row hm);(let⟨c,hc,h⟩:=Zam h);(cases he:Za3 (exp n H) c with|none=>simp[he]at h|some qs=>(let⟨J,C⟩:=j c qs he);refine⟨by simp only[I,hc,Xad,J];rw[he]at h;exact h, ?_⟩;simp[I,hm,hc,C]);cases h|func f a c=>(simp[exp,rch]at h|-;(let⟨a',J,h⟩:=Zam h);cases C:Za3 (exp n H) c with|none=>simp[C]at h|some R=>(let⟨h3,h4⟩:=j a a' J);(let⟨U,h6⟩:=j c R C);exact⟨by rw[h3,U];rw[C]at h;exact h,by rw[h4,h6]⟩)|agg cs=>(simp[exp,rch]at h|-;cases C:Za3 (exp n H) cs with|none=>simp[C]at h|some R=>(let⟨U,h6⟩:=j cs R C);exact⟨by rw[U];rw[C]at h;exact h,h6⟩)|tup cs=>(simp[exp,rch]at h|-;cases C:Za3 (exp n H) cs with|none=>simp[C]at h|some R=>(let⟨U,h6⟩:=j cs R C);exact⟨by rw[U];rw[C]at h;exact h,h6⟩)|map id=>simp[exp]at h|_=>exact⟨by simpa only[exp]using h,rfl⟩
def Zmw (C:Sub H Hs) {f args base r} (j:ZiO h E f args H base=some r):ZiO h E f args Hs base=some r:=by
 unfold ZiO at j|-;let⟨R,I,j⟩:=Zam j
 have U:=Zir (λx _ b J=>(ZoG C _ x b J).1) I;grind [Zdg,Zes,ZoG,ZFH,ZrS]
def ZgE {x y} (j: ∀p,x=some p->y=some p) {r} (C:val x=some r):val y=some r:=by cases x with|none=>simp[val]at C|some p=>rw[j p rfl];exact C
def Zvg (I:Sub H Hs) {base ρ o r} (ho:opR P h E H base ρ o=some r):opR P h E Hs base ρ o=some r:=by
 unfold opR at ho|-;cases R:o.op<;>simp[R]at ho|- <;>try exact ho
 exact ZgE (λp hp=>by unfold Zn6 at hp|-;(let⟨q,j,C⟩:=Zam hp);simp[j,Xad];exact ZrI I C) ho;exact ZgE (λp hp=>by unfold Zx6 at hp|-;(let⟨q,j,C⟩:=Zam hp);simp[j,Xad];exact ZsG I C) ho;exact ZgE (λp hp=>by unfold Zc1 at hp|-;(let⟨q,j,hp⟩:=Zam hp);(let⟨l,C,hp⟩:=Zam hp);(let⟨k,J,hp⟩:=Zam hp);(let⟨m,h4,hp⟩:=Zam hp);simp[j,C,J,h4,Xad];exact Zps I hp) ho;exact ZgE (λp hp=>by unfold Zbc at hp|-;(let⟨q,r,j,C,J⟩:=ZrE hp);simp[j,C,Xad];exact Zj8 I J) ho;exact ZgE (λp hp=>by unfold Zhx at hp|-;(let⟨q,r,j,C,J⟩:=ZrE hp);simp[j,C,Xad];exact Zof I J) ho;rename_i c;unfold ZjS at ho|-;cases U:c.callee with|builtin b=>simp[U]at ho|-;exact ZgE (λp hp=>by unfold Zcv at hp|-;(let⟨q,j,C⟩:=Zam hp);simp[j,Xad];exact ZnN I C) ho|value x=>(cases x<;>simp[U]at ho|- <;>try exact ho);unfold Zic at ho|-;(let⟨hn,ho⟩:=Zlf ho);rw[if_neg hn];(let⟨vs,j,C⟩:=Zam ho);simp only[j,Xad];exact Zmw I C|invoke _ _=>simp only[U]at ho;cases ho
def ZdJ: ∀ (ids:List Nat) (H:List Mem),∀ (j:Nat) (m:Mem),H[j]? =some m-> ∃C,(freeze ids H)[j]? =some C/\simM m C
 | [],H,j,m,h=>⟨m,h,simM.refl m⟩
 |i::ids,H,j,m,h=>by
  show ∃C,(freeze ids (freeze1 H i))[j]? =some C/\simM m C
  rcases ZaV H i j with I|⟨rfl,es,z,b,I,R⟩;exact ZdJ ids (freeze1 H i) j m (by rw[I];exact h);(let⟨C,U,J⟩:=ZdJ ids (freeze1 H i) i _ R);rw[h]at I;cases I;refine⟨C,U, ?_⟩;cases C<;>simp[simM]at J|-;exact J
theorem ZgN: ∀ (ids:List Nat) (H:List Mem) (j:Nat) (es:List (List PV)) (z:Nat) (m:Bool),(freeze ids H)[j]? =some (.row es z m)-> ∃C,H[j]? =some (.row es z C)
 | [],H,j,es,z,m,h=>⟨m,h⟩
 |i::ids,H,j,es,z,m,h=>by(let⟨C,I⟩:=ZgN ids (freeze1 H i) j es z m h);grind [ZaV]
def Sub.freeze (ids:List Nat) (H ms:List Mem):Sub H (freeze ids H++ms):=by
 intro j m h;let⟨C,I,J⟩:=ZdJ ids H j m h
 grind
def ZtM (H:List Mem) (x:Option PV):Zcz H x=Zj6 H (val x):=by cases x<;>simp[Zcz,Zj6,val,freeze]
def ZwK {ρ:Operand->Option PV} {o:Oper} (hw:isW h o=false):opA P h E H ρ o=Zj6 H (opR P h E H H.length ρ o):=by
 unfold isW at hw;unfold opA opR;cases j:o.op<;>simp[j,ZtM]at hw|- <;>try (first|rfl|(simp at hw;done))
 rename_i c;unfold ZJU at hw;unfold ZiJ ZjS;cases C:c.callee with|builtin b=>(cases b<;>simp[C,ZtM]at hw|- <;>first|rfl|(simp at hw;done))|value x=>grind|invoke _ _=>simp[C]at hw
def Zy8 {ρ:Operand->Option PV} {o:Oper} (hw:isW h o=true):opA P h E H ρ o=opW P h E H ρ o:=by
 unfold isW at hw;unfold opA opW;cases j:o.op<;>simp[j]at hw|- <;>try (first|rfl|(simp at hw;done))
 rename_i c;unfold ZJU at hw;unfold ZiJ ZvW;cases C:c.callee with|builtin b=>(cases b<;>simp[C]at hw|- <;>first|rfl|(simp at hw;done))|value x=>grind|invoke _ _=>rfl
end
variable [Laid]
section
variable {P:Program} {h:Hints} {E:Ev} {w:World} {φ:Phi} {S:Nat->Prop} {B:Nat} {H H':List Mem} {tm:List (Nat × PV)} {N:Nat} {o:Oper} {a:Act} {K:Act->World->Prop} {Q:Exit->Act->World->Prop}
theorem Zpg {H'} (hI:Inv φ H w S B) (hlen:H'.length=H.length) ms:ZGL (H'++ms) φ H.length ms:=by intro j m hm;refine⟨m, ?_, .inl rfl, ?_⟩;grind;cases C:φ (H.length+j)with|none=>rfl|some l=>have:=(hI.live _ l C).2.2;omega
def Zis (hG:Good P h E) (hI:Inv φ H w S B) {f args vals v} (C:Zdv h E f args H=some (v,H')) (R:VL φ w S args vals):
 ZEJ P f/\Calls P f vals.toArray w (ZG3 H' H.length B φ S w v):=by unfold Zdv at C;by_cases ho:h.opn f=true;rw[if_pos ho]at C;exact⟨hG.fnOk f (.inl ⟨_,_,_,C⟩),hG.rn f args H v H' C φ S w B vals hI R⟩;rw[if_neg ho]at C;cases J:ZiO h E f args H H.length with|none=>simp[J]at C|some x=>(let⟨q,ms,fz⟩:=x);simp[J,Xau]at C;obtain⟨rfl,rfl⟩:=C;(let⟨S1,U,h2,h3⟩:=hI.freeze fz);have hlen:=ZaX fz H;have I:=ZlI hG.rn hG.prim (U.reheap (λj l hj=> .inl (by rw[Xan (U.live j l hj).2.2])) sM) (Zmw (Sub.freeze fz H ms) J) (R.evo h2 hI (Xae _)) (Zpg hI hlen ms) (λid hid l es z m hl hm=>by have aa:=(hI.live id l hl).2.2;grind [ZgN]);refine⟨Zth hG J,I.mono ?_⟩;rintro e w' ⟨u,φ',S2,rfl,h4,h5,h6,_⟩;exact⟨u,φ',S2,rfl,h4,h2.trans (h5.mono (by simp[hlen])),h6⟩
def ZeQ:VRel φ w S (.tup []) undef:=by simp only[VRel,VL];exact⟨#[],rfl,rfl⟩
def ZiA {ts ty s x v sv J H'} (hI:Inv φ H w S B) (j:Zev P h H ts s x=some (v,H')) (hs:VRel φ w S s sv) (hx:VRel φ w S x J):
 ∃u w' φ' S',(Builtin.append_ ts ty #[sv,J]).run P w= .ok u w'/\Inv φ' H' w' S' B/\Evo H.length B φ S w φ' S' w'/\VRel φ' w' S' v u/\ ∀i,i<H.length->φ' i=φ i:=by unfold Zev at j;cases hf:frzT h ts with|false=>rw[hf,cond_false]at j;exact ZhG hI j hs hx|true=>rw[hf,cond_true]at j;(let⟨x',h1,h2⟩:=Zam j);(let⟨S1,h3,R,h5⟩:=hI.freeze (rch ZaZ H x));have h7:=IRel.mono (λb U=>⟨by rcases U with U|⟨id,hid,l,hl,rfl⟩;exact(R.st b U).1;(let⟨es,z,m,C⟩:=Zlu _ _ _ hid);exact h5 id hid l es z m hl C,rfl⟩) _ _ ((ZfS hI (rch ZaZ H x) ZaZ x x' J h1 hx (λ_ hid=>hid)).1);(let⟨u,w',φ',S',h8,h9,I,aa,ab⟩:=ZhG (ty:=ty) h3 h2 (VRel.mono (λ_ _ hl=>hl) R.st _ _ hs) (IRel.toV _ _ h7));rw[ZaX]at I;exact⟨u,w',φ',S',h8,h9,R.trans I,aa,λi hi=>ab i (by rw[ZaX];exact hi)⟩
def ZIi (hG:Good P h E) {v} (hI:Inv φ H w S B) (ht:TRel φ w S N tm a) (j:opW P h E H (ev tm) o=some (v,H'))
 (hK: ∀u w' φ' S',Inv φ' H' w' S' B->Evo H.length B φ S w φ' S' w'->VRel φ' w' S' v u->K (a.put o.dst u) w'):o.wp P a w K Q:=by
 have ab: ∀c:Call,c.args.map a.eval=(c.args.toList.map a.eval).toArray:=λc=>by rw[<-Array.toList_map,Array.toArray_toList]
 unfold opW at j;cases ho:o.op with
 |store t x y=>simp[ho,ZfW]at j;(let⟨p,C,g1⟩:=Zam j);(let⟨q,h2,g2⟩:=Zam g1);(let⟨J,hn⟩:=ZgR h2);cases hs:Zdo P H t p q with|none=>simp[hs]at g2|some H2=>simp[hs,Xau,Prod.mk.injEq]at g2;obtain⟨rfl,rfl⟩:=g2;(let⟨w',R,U,h6⟩:=ZjL (P:=P) hI hs (ZaD ht C) (ZaD ht J) hn);exact ZgQ (by simp[execOp,ho,R]) (hK _ w' φ S U h6 ZeQ)
 |mapUpdate t m k x=>simp[ho]at j;have I:=j;unfold Zsl at I;(let⟨e,he,g1⟩:=Zam I);(let⟨mv,C,g2⟩:=Zam g1);(let⟨kv,h2,g3⟩:=Zam g2);(let⟨xv,J,g4⟩:=Zam g3);rw[C,h2,J]at j;obtain⟨w',R,rfl,U,h6⟩:=Zng hI j (ZaD ht C) (ZaD ht h2) (ZaD ht J);exact ZgQ (by simp[execOp,ho,R]) (hK _ w' φ S U h6 ZeQ)
 |insert t m k x=>simp[ho]at j;have I:=j;unfold Zsl at I;(let⟨e,he,g1⟩:=Zam I);(let⟨mv,C,g2⟩:=Zam g1);(let⟨kv,h2,g3⟩:=Zam g2);(let⟨xv,J,g4⟩:=Zam g3);rw[C,h2,J]at j;obtain⟨w',R,rfl,U,h6⟩:=Zng hI j (ZaD ht C) (ZaD ht h2) (ZaD ht J);exact ZgQ (by simp[execOp,ho,R]) (hK _ w' φ S U h6 ZeQ)
 |call c=>
  simp[ho,ZvW]at j;cases hc:c.callee with
  |builtin b=>
   simp[hc,Zh9]at j;have two: ∀ {vs:List PV} {s x:PV},Za3 (ev tm) c.args.toList=some vs->vs=[s,x]-> ∃sv xv,c.args.toList.map a.eval=[sv,xv]/\VRel φ w S s sv/\VRel φ w S x xv:=by intro vs s x C h2;subst h2;have hv:=Zcw ht C;simp only[VL]at hv;obtain⟨sv,r,e1,J,xv,r2,rfl,R,rfl⟩:=hv;exact⟨sv,xv,e1,J,R⟩
   (cases b<;>simp[]at j<;>try (cases j;done));unfold Zfd at j;(let⟨vs,C,g1⟩:=Zam j);split at g1;rename_i s x;(let⟨sv,xv,e1,J,R⟩:=two C rfl);(let⟨u,w',φ',S',U,h6,h7,h8,_⟩:=ZiA (P:=P) (h:=h) (ty:=o.type) hI g1 J R);refine Zdi ?_ (hK u w' φ' S' h6 h7 h8);simp[execOp,ho,resolve,hc,Sem.run_bind,Sem.run_pure,Result.andThen_ok,invoke,builtin,ab,e1];rw[show([sv,xv]:List Value).toArray= #[sv,xv]from rfl,U];rfl;cases g1;unfold Zkw at j;(let⟨vs,C,g1⟩:=Zam j);split at g1;rename_i s;have hv:=Zcw ht C;simp only[VL]at hv;obtain⟨sv,r,e1,J,rfl⟩:=hv;(let⟨u,w',U,h6,h7,h8⟩:=ZpT (P:=P) (ty:=o.type) hI g1 J);refine Zdi ?_ (hK u w' φ S h6 h7 h8);simp[execOp,ho,resolve,hc,Sem.run_bind,Sem.run_pure,Result.andThen_ok,invoke,builtin,ab,e1];rw[show([sv]:List Value).toArray= #[sv]from rfl,U];rfl;cases g1;unfold Zst at j;(let⟨vs,C,g1⟩:=Zam j);split at g1;rename_i s x;(let⟨sv,xv,e1,J,R⟩:=two C rfl);(let⟨u,w',U,h6,h7,h8⟩:=Zs0 (P:=P) (ty:=o.type) hI g1 J R);refine Zdi ?_ (hK u w' φ S h6 h7 h8);simp[execOp,ho,resolve,hc,Sem.run_bind,Sem.run_pure,Result.andThen_ok,invoke,builtin,ab,e1];rw[show([sv,xv]:List Value).toArray= #[sv,xv]from rfl,U];rfl;cases g1
  |value x=>have dyn:Zzy h E H (ev tm) x c=some (v,H')->o.wp P a w K Q:=(by intro hd;unfold Zzy at hd;(let⟨fv,C,g1⟩:=Zam hd);split at g1;(·(rename_i f first ah);(let⟨vs,h2,g2⟩:=Zam g1);have hf:=ZaD ht C;simp[VRel]at hf;(let⟨fs,cs,ae,af,ag⟩:=hf);(let⟨ad,aa⟩:=Zis hG hI g2 (VL.append (VL.append af (Zcw ht h2)) ag));refine Zhw (f:=f) (args:=(fs.toList++c.args.toList.map a.eval++cs.toList).toArray) ?_ (aa.mono ?_);(·simp only[execOp,ho,resolve,hc,ae,Deferred.ofValue,Sem.run_bind,Sem.run_pure,Result.andThen_ok,invoke,ZfT ad];congr 2;apply Array.ext';simp);rintro e w' ⟨u,φ',S',rfl,R,U,h6⟩;exact⟨u,rfl,hK u w' φ' S' R U h6⟩);cases g1);cases x with|func f=>simp[hc]at j;unfold Zra at j;(let⟨vs,h2,g2⟩:=Zam j);(let⟨ad,aa⟩:=Zis hG hI g2 (Zcw ht h2));refine Zhw (f:=f) (args:=(c.args.toList.map a.eval).toArray) ?_ (aa.mono ?_);(·simp[execOp,ho,resolve,hc,Act.eval,Deferred.ofValue,Sem.run_bind,Sem.run_pure,Result.andThen_ok,invoke,ZfT ad];congr 2;apply Array.ext';simp);rintro e w' ⟨u,φ',S',rfl,R,U,h6⟩;exact⟨u,rfl,hK u w' φ' S' R U h6⟩|_=>simp[hc]at j;exact dyn j
  |invoke _ _=>simp[hc]at j
 |_=>simp[ho]at j
def ZLu (φ:Phi) (H:List Mem) (φ':Phi) (H':List Mem):Prop:= ∀id,id<H.length->φ id=none->φ' id=none/\ ∀m,H[id]? =some m->H'[id]? =some m\/ ∃es z b,m= .row es z b/\H'[id]? =some (.row es z false)
theorem Zwd {z by_ s v new C} (j:ZbQ H z by_ s new=some (v,H')) (I:VRel φ w S s C) {k} (J:φ k=none) {m} (hm:H[k]? =some m):H'[k]? =some m:=by unfold ZbQ at j;grind [VRel]
theorem Zry ids H {k:Nat} {m} (hm:H[k]? =some m):(freeze ids H)[k]? =some m\/ ∃es z b,m= .row es z b/\(freeze ids H)[k]? =some (.row es z false):=by induction ids generalizing H m with|nil=>exact .inl hm|cons i ids C=>rcases ZaV H i k with h|⟨rfl,es,z,b,I,J⟩;exact C (freeze1 H i) (by rw[h];exact hm);rw[hm]at I;cases I;right;rcases C (freeze1 H i) J with j|⟨es',z',U,R,j⟩;exact⟨es,z,b,rfl,j⟩;cases R;exact⟨es,z,b,rfl,j⟩
def ZvH {ts s x v I} (j:Zev P h H ts s x=some (v,H')) (R:VRel φ w S s I) {k} (U:φ k=none) {m} (hm:H[k]? =some m):H'[k]? =some m\/ ∃es z b,m= .row es z b/\H'[k]? =some (.row es z false):=by
 have key: ∀ {H1:List Mem} {C:PV},Zet P H1 ts s C=some (v,H')-> ∀m1,H1[k]? =some m1->H'[k]? =some m1:=by intro H1 C j m1 J;(let⟨t,_,j⟩:=Zam j);(let⟨e,_,j⟩:=Zam j);(let⟨z,_,j⟩:=Zam j);(let⟨by_,_,j⟩:=Zam j);(let⟨zero,_,j⟩:=Zam j);(let⟨new,_,j⟩:=Zam j);(let⟨_,j⟩:=Zau j);grind [Zwd]
 unfold Zev at j;cases hf:frzT h ts with|false=>rw[hf,cond_false]at j;exact .inl (key j m hm)|true=>rw[hf,cond_true]at j;(let⟨x',_,h2⟩:=Zam j);grind [Zry,rch]
def ZFY (hG:Good P h E) {v} (C:ZhA o=true) (hI:Inv φ H w S B) (ht:TRel φ w S N tm a) (j:opW P h E H (ev tm) o=some (v,H'))
 (hK: ∀u w' φ' S',Inv φ' H' w' S' B->Evo H.length B φ S w φ' S' w'->VRel φ' w' S' v u->ZLu φ H φ' H'->K (a.put o.dst u) w'):o.wp P a w K Q:=by
 have R: ∀c:Call,c.args.map a.eval=(c.args.toList.map a.eval).toArray:=λc=>by rw[<-Array.toList_map,Array.toArray_toList]
 unfold ZhA at C;unfold opW at j;cases ho:o.op with|store t x y=>(simp[ho,ZfW]at j;(let⟨p,h1,g1⟩:=Zam j);(let⟨q,h2,g2⟩:=Zam g1);(let⟨U,hn⟩:=ZgR h2);cases I:Zdo P H t p q with|none=>simp[I]at g2|some H2=>simp[I,Xau]at g2;obtain⟨rfl,rfl⟩:=g2;have hp:=ZaD ht h1;(let⟨w',h4,h5,h6⟩:=ZjL hI I hp (ZaD ht U) hn);refine ZgQ (by simp[execOp,ho,h4]) (hK _ w' φ S h5 h6 ZeQ λid hid J=>⟨J,λm hm=> .inl ?_⟩);unfold Zdo at I;split at I;rename_i aa i r;simp[VRel]at hp;have ab:aa≠id:=(by rintro rfl;(let⟨l,hl,_⟩:=hp);rw[J]at hl;cases hl);split at I;(let⟨c,_,I⟩:=Zam I);(let⟨n,_,I⟩:=Zam I);(let⟨_,I⟩:=Zau I);cases I;rw[XaL ab];exact hm;cases I;cases I)|call c=>(simp[ho]at C;simp[ho,ZvW]at j;cases hc:c.callee with|builtin b=>simp[hc]at C;simp[hc,Zh9]at j;(cases b<;>simp at j C<;>try (first|(cases j;done)|(cases C;done)));unfold Zfd at j;(let⟨vs,h1,g1⟩:=Zam j);split at g1;rename_i s x;have hv:=Zcw ht h1;simp only[VL]at hv;obtain⟨sv,r,e1,U,xv,r2,rfl,h4,rfl⟩:=hv;(let⟨u,w',φ',S',h5,h6,h7,h8,h9⟩:=ZiA (ty:=o.type) hI g1 U h4);refine Zdi ?_ (hK u w' φ' S' h6 h7 h8 λid hid J=>⟨by rw[h9 id hid];exact J,λm hm=>ZvH g1 U J hm⟩);simp[execOp,ho,resolve,hc,Sem.run_bind,Sem.run_pure,Result.andThen_ok,invoke,builtin,R,e1];rw[show([sv,xv]:List Value).toArray= #[sv,xv]from rfl,h5];rfl;cases g1|_=>simp[hc]at C)|_=>simp[ho]at C
def ZEi (hG:Good P h E) {v} (hI:Inv φ H w S B) (I:TRel φ w S N tm a) (C:opA P h E H (ev tm) o=some (v,H'))
 (R: ∀u w' φ' S',Inv φ' H' w' S' B->Evo H.length B φ S w φ' S' w'->VRel φ' w' S' v u->K (a.put o.dst u) w'):o.wp P a w K Q:=by cases hw:isW h o with|true=>rw[Zy8 hw]at C;exact ZIi hG hI I C R|false=>rw[ZwK hw]at C;unfold Zj6 at C;cases J:opR P h E H H.length (ev tm) o with|none=>simp[J]at C|some x=>(let⟨q,ms,fz⟩:=x);simp[J,Xau]at C;obtain⟨rfl,rfl⟩:=C;(let⟨S1,U,h2,h3⟩:=hI.freeze fz);have hlen:=ZaX fz H;refine Zyi hG (U.reheap (λj l hj=> .inl (by rw[Xan (U.live j l hj).2.2])) sM) (⟨I.1,I.2.1,λi p hp=>⟨(I.2.2 i p hp).1,(I.2.2 i p hp).2.evo h2 hI (Xae _)⟩⟩) (Zvg (Sub.freeze fz H ms) J) ?_ ?_ ?_;grind [Zpg];intro id hid l es z m hl hm;have aa:=(hI.live id l hl).2.2;grind [ZgN];intro u w' φ' S' h4 h5 h6 _;exact R u w' φ' S' h4 (h2.trans (h5.mono (by simp[hlen]))) h6
def Zja {dst v u tm'} (hp:ZgX N dst v tm=some tm') (j:TRel φ w S N tm a) (C:VRel φ w S v u):TRel φ w S N tm' (a.put dst u):=by unfold ZgX at hp;cases dst with|none=>simp at hp;subst hp;exact j|some d=>(let⟨hd,hp⟩:=Zau hp);cases hp;refine⟨by simp[Act.put,j.1],j.2.1, ?_⟩;intro i p hi;rw[ZcU]at hi;by_cases hid:i=d;subst hid;rw[if_pos rfl]at hi;cases hi;refine⟨hd, ?_⟩;have:i<a.tmps.size:=(by rw[j.1];exact hd);simpa[Act.put,this]using C;rw[if_neg hid]at hi;(let⟨I,J⟩:=j.2.2 i p hi);refine⟨I, ?_⟩;have:(a.put (some d) u).tmps.getD i undef=a.tmps.getD i undef:=(by simp[Act.put,Array.getElem?_setIfInBounds_ne (λe=>hid e.symm)]);rw[this];exact J
def TRel.evo {k φ' S' w'} (j:TRel φ w S N tm a) (he:Evo k B φ S w φ' S' w') (hI:Inv φ H w S B) (C:H.length<=k):TRel φ' w' S' N tm a:=
 ⟨j.1,j.2.1,λi p hp=>⟨(j.2.2 i p hp).1,(j.2.2 i p hp).2.evo he hI C⟩⟩
def ZuN {t} (j:TRel φ w S N tm a) {p} (hp:get tm t=some p):a.tmps[t]? =some (a.tmps.getD t undef):=by have:=(j.2.2 t p hp).1;rw[<-j.1]at this;simp[this]
def Zfj {ops:Array Oper} {b:Bool} (hw:ZeT ops tm o=some b) (I:TRel φ w S N tm a):Region.wanted o (yielded ops a.tmps)=b:=by unfold ZeT at hw;unfold Region.wanted;cases J:o.guard with|none=>simp[J]at hw|-;exact hw|some R=>(let⟨j,want⟩:=R);simp[J]at hw|-;unfold yielded;cases hd:(ops[j]?).bind (·.dst)with|none=>simp[hd]at hw|some d=>simp[hd,Xad]at hw|-;split at hw;rename_i c C;cases hw;have U:=ZuN I C;have h2:=(I.2.2 d _ C).2;grind [VRel];rename_i C;cases hw;have U:=ZuN I C;have h2:=(I.2.2 d _ C).2;grind [VRel,Array.ext'];cases hw
def ZzM (hG:Good P h E) {ops:Array Oper} {i:Nat} (hi:ops[i]? =some o) {s I:St} (j:Zf2 P h E N ops o s=some I) (hI:Inv φ s.hp w S B) (C:TRel φ w S N s.tm a)
 (J: ∀R w' φ' S',Inv φ' I.hp w' S' B->Evo s.hp.length B φ S w φ' S' w'->TRel φ' w' S' N I.tm R->K R w'):wpOp P ops Q i K a w:=by
 let⟨b,hb,j⟩:=Zam j
 unfold wpOp;simp[hi,(Zfj hb C)];cases b with|true=>((let⟨x,hx,j⟩:=Zam j);(let⟨v,H'⟩:=x);cases hp:ZgX N o.dst v s.tm with|none=>simp[hp]at j|some tm'=>simp[hp,Xau,Xaj]at j;subst j;left;refine ZEi hG hI C hx ?_;intro u w' φ' S' h1 U h3;exact J _ w' φ' S' h1 U (Zja hp (C.evo U hI (Xae _)) h3))|false=>cases hp:ZgX N o.dst (.tup []) s.tm with|none=>simp[hp]at j|some tm'=>simp[hp,Xau,Xaj]at j;subst j;exact J _ w φ S hI (Evo.refl _ _ _ _ _) (Zja hp C ZeQ)
def Zwr {t:TypeId} {x y:PV} (j:Zdo P H t x y=some H'):H'.length=H.length:=by
 unfold Zdo at j;split at j;split at j;let⟨c,_,j⟩:=Zam j
 let⟨n,_,j⟩:=Zam j
 grind;cases j;cases j
def ZrF {z by_:Nat} {s v:PV} {new:List (List PV)} (j:ZbQ H z by_ s new=some (v,H')):H.length<=H'.length:=by unfold ZbQ at j;grind
def ZkR {ts:Array TypeId} {s x v:PV} (j:Zet P H ts s x=some (v,H')):H.length<=H'.length:=by
 let⟨t,_,j⟩:=Zam j
 let⟨e,_,j⟩:=Zam j
 let⟨z,_,j⟩:=Zam j
 let⟨b,_,j⟩:=Zam j
 let⟨zero,_,j⟩:=Zam j
 let⟨new,_,j⟩:=Zam j
 let⟨_,j⟩:=Zau j
 exact ZrF j
def Zsv {ts:Array TypeId} {s x v:PV} (j:Zev P h H ts s x=some (v,H')):H.length<=H'.length:=by unfold Zev at j;cases hf:frzT h ts with|false=>rw[hf,cond_false]at j;exact ZkR j|true=>rw[hf,cond_true]at j;(let⟨I,_,C⟩:=Zam j);have:=ZkR C;grind [ZaX]
def Zw5 {ts:Array TypeId} {s x v:PV} (j:ZvS P H ts s x=some (v,H')):H.length<=H'.length:=by
 let⟨t,_,j⟩:=Zam j
 let⟨e,_,j⟩:=Zam j
 let⟨z,_,j⟩:=Zam j
 let⟨src,_,j⟩:=Zam j
 grind
def Zwj {ts:Array TypeId} {s v:PV} (j:Zmt P H ts s=some (v,H')):H.length<=H'.length:=by unfold Zmt at j;cases j
def ZvA {t:TypeId} {m k x:Option PV} {v:PV} (j:Zsl P H t m k x=some (v,H')):H.length<=H'.length:=by
 let⟨e,_,j⟩:=Zam j
 let⟨m,_,j⟩:=Zam j
 let⟨k,_,j⟩:=Zam j
 let⟨x,_,j⟩:=Zam j
 let⟨key,_,j⟩:=Zam j
 cases hd:Zgs key e.1 with
 |false=>rw[hd]at j;cases j
 |true=>
 rw[hd,cond_true]at j;split at j;split at j;rename_i es _;cases hp:Zdy key x es with|none=>simp[hp]at j|some es'=>grind
 cases j;cases j
def Ztg {r:Res} {v:PV} (j:Zj6 H r=some (v,H')):H.length<=H'.length:=by unfold Zj6 at j;cases r with|none=>simp at j|some x=>grind [Xaj,Prod.mk.injEq,ZaX]
def Zk3 (hG:Good P h E) {f:FuncId} {args:List PV} {v:PV} (j:Zdv h E f args H=some (v,H')):H.length<=H'.length:=by unfold Zdv at j;split at j;exact hG.len _ _ _ _ _ j;exact Ztg j
def ZFs (hG:Good P h E) {ρ:Operand->Option PV} {v:PV} (j:opW P h E H ρ o=some (v,H')):H.length<=H'.length:=by
 unfold opW at j;split at j;rename_i t _ _ _;let⟨p,_,j⟩:=Zam j
 let⟨q,_,j⟩:=Zam j
 cases C:Zdo P H t p q with|none=>simp[C]at j|some H2=>simp[C,Xau,Xaj,Prod.mk.injEq]at j;obtain⟨_,rfl⟩:=j;rw[Zwr C];exact Xae _
 exact ZvA j;exact ZvA j;unfold ZvW at j;split at j;unfold Zh9 at j;split at j;unfold Zfd at j;let⟨vs,_,j⟩:=Zam j
 split at j;exact Zsv j;cases j;unfold Zst at j;let⟨vs,_,j⟩:=Zam j
 split at j;exact Zw5 j;cases j;unfold Zkw at j;let⟨vs,_,j⟩:=Zam j
 split at j;exact Zwj j;cases j;cases j;unfold Zra at j;let⟨vs,_,j⟩:=Zam j
 exact Zk3 hG j;unfold Zzy at j;let⟨fv,_,j⟩:=Zam j
 split at j;let⟨vs,_,j⟩:=Zam j
 exact Zk3 hG j;cases j;cases j;cases j
def ZrT (hG:Good P h E) {ρ:Operand->Option PV} {v:PV} (j:opA P h E H ρ o=some (v,H')):H.length<=H'.length:=by cases hw:isW h o with|true=>rw[Zy8 hw]at j;exact ZFs hG j|false=>rw[ZwK hw]at j;exact Ztg j
def Zws (hG:Good P h E) {ops:Array Oper} {s C:St} (j:Zf2 P h E N ops o s=some C):s.hp.length<=C.hp.length:=by
 let⟨b,_,j⟩:=Zam j
 cases b with|true=>((let⟨⟨v,H'⟩,I,j⟩:=Zam j);cases hp:ZgX N o.dst v s.tm with|none=>simp[hp]at j|some tm'=>simp[hp,Xau,Xaj]at j;subst j;exact ZrT hG I)|false=>cases hp:ZgX N o.dst (.tup []) s.tm with|none=>simp[hp]at j|some tm'=>grind
def Znd (hG:Good P h E) {ops:Array Oper} (base:Nat): ∀ (l:List Oper) (i:Nat) (s j:St) (φ:Phi) (S:Nat->Prop) (a:Act) (w:World),ops.toList.drop i=l->Zgk P h E N ops l s=some j->Inv φ s.hp w S B->TRel φ w S N s.tm a->base<=s.hp.length->
 (∀J w' φ' S',Inv φ' j.hp w' S' B->Evo base B φ S w φ' S' w'->TRel φ' w' S' N j.tm J->base<=j.hp.length->Q .normal J w')->wpOps P ops Q ((List.range ops.size).drop i) a w
 | [],i,s,j,φ,S,a,w,hl,C,hI,R,U,hQ=>by have aa:ops.size<=i:=(by have:=List.drop_eq_nil_iff.1 hl;simpa using this);rw[List.drop_eq_nil_of_le (by simpa using aa)];cases C;exact hQ a w φ S hI (Evo.refl _ _ _ _ _) R U
 |o::l,i,s,j,φ,S,a,w,hl,C,hI,R,U,hQ=>by have ab:i<ops.size:=(by rcases Xa8 i ops.size with h|h;exact h;rw[List.drop_eq_nil_of_le (by simpa using h)]at hl;cases hl);have hi:ops[i]? =some o:=(by have:(ops.toList.drop i)[0]? =some o:=(by rw[hl];rfl);rw[List.getElem?_drop]at this;simpa using this);have ad:ops.toList.drop (i+1)=l:=(by rw[<-Xbl,hl];rfl);(let⟨s1,h1,h2⟩:=Zam C);have hr:(List.range ops.size).drop i=i::(List.range ops.size).drop (i+1):=(by rw[XaM (by simpa using ab)];simp);rw[hr,wpOps_cons];refine ZzM hG hi h1 hI R ?_;intro J w' φ' S' h3 h4 h5;have hlen:=Zws hG h1;refine Znd hG base l (i+1) s1 j φ' S' J w' ad h2 h3 h5 oM ?_;intro ae af I ag h6 h7 h8 h9;exact hQ ae af I ag h6 ((h4.mono U).trans h7) h8 h9
end
variable [Laid]
def Zto (acc:List Nat) (o:Oper):Nat:=
 o.after.toList.foldr (λe s=>bif Region.binds .any e then(s|||2^e.on)|||acc.getD e.on 0 else s) 0
def ZGn:List Oper->List Nat->List Nat
 | [],acc=>acc
 |o::r,acc=>ZGn r (acc++ [Zto acc o])
def ZdW (h:Hints) (ls:List Nat):List Oper->Nat->Nat
 | [],i=>i
 |o::r,i=>bif !has i ls&&isW h o then i else ZdW h ls r (i+1)
def ZnK (h:Hints) (ls:List Nat):List Oper->Nat->List Nat
 | [],i=> [i]
 |o::r,i=>match ZnK h ls r (i+1)with
  |n::l=>(bif !has i ls&&isW h o then i else n)::n::l
  | []=> []
def ZEp (h:Hints) (ls:List Nat) (ops:Array Oper) (C ms:List Nat) (i j:Nat):Bool:=
 Nat.testBit (ms.getD j 0) i||match ops[i]?,ops[j]? with
 |some x,some y=>x.apart ops y&&(has i ls||(has j ls&& !isW h x)||Nat.blt j (C.getD i 0)||(isA x&&(ZhA y|| !isW h y)))
 |_,_=>true
def Zw9 (ops:Array Oper) (j:Nat):Bool:=
 match ops[j]? with
 |some o=>o.after.toList.all λe=> !Region.binds .any e||decide (e.on<j)
 |none=>true
def Zio (h:Hints) (ls:List Nat) (ops:Array Oper):Bool:=
 let ms:=ZGn ops.toList []
 let C:=ZnK h ls ops.toList 0
 (List.range ops.size).all λj=>Zw9 ops j&&(List.range j).all λi=>ZEp h ls ops C ms i j
def Zg4 (ops:Array Oper) (D:Nat->Bool):Prop:= ∀j o,ops[j]? =some o->D j=true-> ∀e∈o.after,Region.binds .any e=true->D e.on=true
def Zsr {acc o i}:Nat.testBit (Zto acc o) i=true-> ∃e∈o.after,Region.binds .any e=true/\(i=e.on\/Nat.testBit (acc.getD e.on 0) i=true):=by
 unfold Zto;have gen: ∀l:List Edge,Nat.testBit (l.foldr (λe s=>bif Region.binds .any e then(s|||2^e.on)|||acc.getD e.on 0 else s) 0) i=true-> ∃e∈l,Region.binds .any e=true/\(i=e.on\/Nat.testBit (acc.getD e.on 0) i=true):=by intro l;induction l with|nil=>intro h;simp at h|cons e l j=>intro h;cases C:Region.binds .any e with|false=>grind|true=>grind
 grind
def ZjE {ops D} (hD:Zg4 ops D): ∀ (l:List Oper) (acc:List Nat),ops.toList.drop acc.length=l->
 (∀j i,D j=true->Nat.testBit (acc.getD j 0) i=true->D i=true)-> ∀j i,D j=true->Nat.testBit ((ZGn l acc).getD j 0) i=true->D i=true
 | [],acc,_,C=>C
 |o::r,acc,hl,C=>by have ho:ops[acc.length]? =some o:=(by have:(ops.toList.drop acc.length)[0]? =some o:=(by rw[hl];rfl);grind);refine ZjE hD r (acc++ [Zto acc o]) (by rw[Xal,<-Xbl,hl];rfl) ?_;intro j i I hi;rcases Nat.lt_trichotomy j acc.length with h|h|h;rw[XaB,Xan h,<-XaB]at hi;exact C j i I hi;subst h;simp[List.getElem?_cons_zero]at hi;(let⟨e,he,J,h⟩:=Zsr hi);have R:=hD _ o ho I e he J;grind;grind
theorem Zhk (h:Hints) ls: ∀ (l:List Oper) (i:Nat),i<=ZdW h ls l i/\ZdW h ls l i<=i+l.length/\ ∀j o,l[j]? =some o->i+j<ZdW h ls l i->has (i+j) ls=false->isW h o=false
 | [],i=>⟨Xae _,Xae _,sM⟩
 |o::r,i=>by simp[ZdW];cases J:(!has i ls&&isW h o)with|true=>grind|false=>(let⟨R,U,h3⟩:=Zhk h ls r (i+1));refine⟨by simp;omega,by simp[Xao];omega, ?_⟩;intro j x hx C I;cases j with|zero=>grind|succ j=>grind
def Zpo (h:Hints) ls: ∀ (l:List Oper) (i:Nat),ZdW h ls l i<i+l.length->has (ZdW h ls l i) ls=false/\ ∃o,l[ZdW h ls l i-i]? =some o/\isW h o=true
 | [],i=>by simp[ZdW]
 |o::r,i=>by simp[ZdW];cases C:(!has i ls&&isW h o)with|true=>grind|false=>simp[Xao];intro j;(let⟨I,J,R,U⟩:=Zpo h ls r (i+1) oM);grind [Zhk]
def Zje (h:Hints) ls: ∀ (l:List Oper) (i:Nat),∃r,ZnK h ls l i=ZdW h ls l i::r
 | [],i=>⟨[],rfl⟩
 |o::l,i=>by(let⟨r,j⟩:=Zje h ls l (i+1));simp_all [ZdW,ZnK]
def Zre (h:Hints) ls: ∀ (l:List Oper) (i j:Nat),j<=l.length->(ZnK h ls l i)[j]? =some (ZdW h ls (l.drop j) (i+j))
 |l,i,0,_=>by(let⟨r,I⟩:=Zje h ls l i);rw[I];rfl
 | [],i,j+1,C=>absurd C (Nat.not_succ_le_zero j)
 |o::l,i,j+1,C=>by have J:=Zre h ls l (i+1) j (Nat.le_of_succ_le_succ C);(let⟨r,I⟩:=Zje h ls l (i+1));grind [ZnK,has,isW,ZdW]
def Znz (h:Hints) (ls:List Nat) (ops:Array Oper) (i:Nat):Nat:=ZdW h ls (ops.toList.drop i) i
def Ze1 {h ls ops i} (hi:i<=ops.size):
 i<=Znz h ls ops i/\Znz h ls ops i<=ops.size/\(∀j o,ops[j]? =some o->i<=j->j<Znz h ls ops i->has j ls=false->isW h o=false)/\
 (Znz h ls ops i<ops.size->has (Znz h ls ops i) ls=false/\ ∃o,ops[Znz h ls ops i]? =some o/\isW h o=true):=by
 let⟨J,h2,R⟩:=Zhk h ls (ops.toList.drop i) i
 have h4:=Zpo h ls (ops.toList.drop i) i;have hl:(ops.toList.drop i).length=ops.size-i:=by rw[XbC,Array.length_toList]
 refine⟨J,by unfold Znz;omega,λj o ho U C I=> ?_,λC=> ?_⟩;have:=R (j-i) o (by rw[List.getElem?_drop,show i+(j-i)=j from by omega];simpa using ho);rw[show i+(j-i)=j from by omega]at this;exact this C I;grind [Znz]
def Zk1 {h ls ops} (hd:Zio h ls ops=true):
 (∀j o,ops[j]? =some o-> ∀e∈o.after,Region.binds .any e=true->e.on<j)/\
 ∀D,Zg4 ops D-> ∀i j x y,i<j->ops[i]? =some x->ops[j]? =some y->D j=true->D i=true\/(x.apart ops y=true/\(has i ls=true\/(has j ls=true/\isW h x=false)\/j<Znz h ls ops i\/(isA x=true/\(ZhA y=true\/isW h y=false)))):=by unfold Zio at hd;simp[XbI]at hd;refine⟨?_, ?_⟩;intro j o ho e he hb;have I:=(Xbj.1 ho).1;grind [Zw9];intro D hD i j x y J U R hj;have I:=(Xbj.1 R).1;have C:=(hd j I).2 i J;unfold ZEp at C;simp only[U,R,Bool.or_eq_true,Xas]at C;rcases C with C|⟨C,h2⟩;exact .inl (ZjE hD ops.toList [] sM (by intro j i _ h;simp at h) j i hj C);refine .inr ⟨C, ?_⟩;rcases h2 with((h2|h2)|h2)|h2;exact .inl h2;grind;refine .inr (.inr (.inl ?_));rw[XaB,(Zre h ls ops.toList 0 i (by rw[Array.length_toList];omega)),Xag]at h2;exact Xam h2;grind
def Zs3 {i:Nat}: ∀ {ls:List Nat},has i ls=true->i∈ls
 | [],h=>by cases h
 |j::l,h=>by have C:(bif Nat.beq i j then true else has i l)=true:=h;cases I:Nat.beq i j with|true=>rw[Xay I];exact Xah|false=>rw[I,cond_false]at C;exact Xai _ (Zs3 C)
section
variable {P:Program} {h:Hints} {E:Ev} {H:List Mem} {o:Oper} {ρ ρ':Operand->Option PV}
theorem ZeL {α β:Type} {f g:α->Option β}: ∀ {l:List α},(∀x∈l,f x=g x)->Za3 f l=Za3 g l
 | [],_=>rfl
 |x::l,h=>by rw[ZhI,ZhI,h x Xah,ZeL λy j=>h y (Xai _ j)]
def Zh7 {parts:Array (Nat×Operand)} (j: ∀x∈parts,ρ x.2=ρ' x.2):Zhj ρ parts=Zhj ρ' parts:=by grind [Zhj,ZeL]
theorem Zpy {base:Nat} (j: ∀x∈o.op.operands,ρ x=ρ' x):opR P h E H base ρ o=opR P h E H base ρ' o:=by
 let⟨dst,op,type,pos,after,guard⟩:=o
 cases op<;>simp only[Op.operands,Array.mem_def]at j<;>simp[opR];case build t ps=>unfold ZmN;rw[Zh7 λx I=>j _ (by simp;exact⟨x.1,I⟩)]
 case buildSlice t n ps=>unfold ZcG;rw[Zh7 λx I=>j _ (by simp;exact⟨x.1,I⟩)]
 case makeFunc fn first R=>
  unfold ZvU
  grind [ZeL]
 case slice t x lo hi U=>
  unfold Zc1
  have one: ∀y:Option Operand,(∀z,y=some z->ρ z=ρ' z)->Zrs ρ y=Zrs ρ' y:=λy hy=>by cases y<;>simp[Zrs];rw[hy _ rfl]
  rw[j x sM,one lo λz J=>j z (by simp[J]),one hi λz J=>j z (by simp[J]),one U λz J=>j z (by simp[J])]
 case call c=>
  unfold ZjS
  have C:Za3 ρ c.args.toList=Za3 ρ' c.args.toList:=ZeL λx I=>j x (by simp[Call.operands];exact .inr (by simpa using I))
  cases hc:c.callee with
  |builtin b=>simp[Zcv,C]
  |value x=>cases x<;>simp[Zic,C]
  |invoke _ _=>rfl
 case pick c x y=>unfold Zwt;rw[j c sM,j x sM,j y sM]
 case move x=>rw[j x sM]
 case assign x=>rw[j x sM]
 case box t x=>rw[j x sM]
 case load t x=>rw[j x sM]
 case nilCheck x=>rw[j x sM]
 case unOp op t x=>rw[j x sM]
 case convert s d x=>rw[j x sM]
 case fieldAddr s x f=>rw[j x sM]
 case field s x f=>rw[j x sM]
 case extract x i=>rw[j x sM]
 case makeInterface t x=>rw[j x sM]
 case typeAssert x xt u ok=>rw[j x sM]
 case binOp op t x y yt=>rw[j x sM,j y sM]
 case makeSlice t x y=>rw[j x sM,j y sM]
 case indexAddr t x y=>rw[j x sM,j y sM]
 case index t x y=>rw[j x sM,j y sM]
 case lookup t x y ok=>rw[j x sM,j y sM]
def ZzH (j: ∀x∈o.op.operands,ρ x=ρ' x):opW P h E H ρ o=opW P h E H ρ' o:=by
 let⟨dst,op,type,pos,after,guard⟩:=o
 cases op<;>simp only[Op.operands,Array.mem_def]at j<;>simp[opW];case store t x y=>rw[j x sM,j y sM]
 case mapUpdate t m k x=>rw[j m sM,j k sM,j x sM]
 case insert t m k x=>rw[j m sM,j k sM,j x sM]
 case call c=>
  unfold ZvW
  have C:Za3 ρ c.args.toList=Za3 ρ' c.args.toList:=ZeL λx I=>j x (by simp[Call.operands];exact .inr (by simpa using I))
  cases J:c.callee with
  |builtin b=>cases b<;>simp[Zh9,Zfd,Zst,Zkw,C]
  |value x=>
   have I:=j x (by simp[Call.operands,J])
   grind [Zra,Zzy]
  |invoke _ _=>rfl
def Zzd (j: ∀x∈o.op.operands,ρ x=ρ' x):opA P h E H ρ o=opA P h E H ρ' o:=by cases hw:isW h o with|true=>rw[Zy8 hw,Zy8 hw];exact ZzH j|false=>rw[ZwK hw,ZwK hw,Zpy j]
def Zok (j: ∀x∈o.op.operands,ρ x=ρ' x):ZaU P h E H ρ o=ZaU P h E H ρ' o:=by grind [ZaU,Zpy]
variable {ops:Array Oper} {tm tm':List (Nat × PV)}
def ZtL (hl: ∀t∈o.looksAt ops,get tm t=get tm' t): ∀x∈o.op.operands,ev tm x=ev tm' x:=by intro x j;cases x<;>simp[ev];rename_i t;exact hl t (Xbu _ (List.mem_filterMap.2 ⟨.tmp t,by simpa using j,rfl⟩))
def ZrQ (hl: ∀t∈o.looksAt ops,get tm t=get tm' t):ZeT ops tm o=ZeT ops tm' o:=by unfold ZeT;cases C:o.guard with|none=>rfl|some I=>(let⟨j,want⟩:=I);simp[];cases hd:(ops[j]?).bind (·.dst)with|none=>rfl|some d=>simp[Xad,hl d (by simp[Oper.looksAt,C,hd])]
def ZI8 {base:Nat} {v:PV} {ms:List Mem} {fz:List Nat} (ho:opR P h E H base ρ o=some (v,ms,fz)): ∀id∈fz,id<H.length:=by
 unfold opR at ho;have I: ∀ {x:Option PV},val x=some (v,ms,fz)-> ∀id∈fz,id<H.length:=λC=>by obtain⟨_,_,rfl⟩:=ZdH C;simp
 have j: ∀ {α:Type} {x:Option α} {f:α->PV} {g:α->List Mem},x.map (λa=>(f a,g a,([]:List Nat)))=some (v,ms,fz)-> ∀id∈fz,id<H.length:=λ{α x f g} C=>by cases x with|none=>simp at C|some a=>simp at C;obtain⟨_,_,rfl⟩:=C;simp
 split at ho<;>try exact I ho
 exact j ho;exact j ho;unfold ZcG at ho;let⟨ps,_,ho⟩:=Zam ho
 exact j ho;unfold Zeb at ho;split at ho;exact j ho;cases ho;unfold Zc5 at ho;let⟨l,_,ho⟩:=Zam ho
 let⟨c,_,ho⟩:=Zam ho
 exact j ho
 ·unfold ZjS at ho;split at ho;exact I ho
  ·unfold Zic at ho;(let⟨_,ho⟩:=Zlf ho);(let⟨vs,_,ho⟩:=Zam ho);unfold ZiO at ho;(let⟨R,_,ho⟩:=Zam ho);cases himp:h.imp _ with
   |true=>rw[himp,cond_true]at ho;unfold ZFH at ho;cases J:Ze8 E _ R base with|none=>rw[J]at ho;cases ho|some r=>rw[J]at ho;simp[Xau,Xaj,Prod.mk.injEq]at ho;intro id hid;rw[<-ho.2.2]at hid;cases hf:r.2.2 with|true=>rw[hf]at hid;simp at hid|false=>rw[hf,cond_false]at hid;(let⟨x,_,C⟩:=Xbg.1 hid);exact Zut _ _ _ C
   |false=>
   rw[himp,cond_false]at ho;unfold ZrS at ho;(let⟨q,_,ho⟩:=Zam ho);split at ho;cases ho;intro id hid;(let⟨x,_,C⟩:=Xbg.1 hid);exact Zut _ _ _ C;(let⟨_,ho⟩:=Zau ho);cases ho;simp
  cases ho
 cases ho
end
variable [Laid]
section
variable {φ φ':Phi} {w w':World} {S S':Nat->Prop} {B N:Nat}
def tmD (D:Nat->Bool) (dst:Nat->Option Tmp) (v:Nat->PV) (tm0:List (Nat×PV)):Nat->List (Nat×PV)
 |0=>tm0
 |i+1=>match D i,dst i with
  |true,some d=>(d,v i)::tmD D dst v tm0 i
  |_,_=>tmD D dst v tm0 i
variable {D D':Nat->Bool} {dst:Nat->Option Tmp} {v:Nat->PV} {tm0:List (Nat × PV)}
theorem ZhU (t:Nat): ∀n,(∀i,i<n->dst i=some t->D i=D' i)->get (tmD D dst v tm0 n) t=get (tmD D' dst v tm0 n) t
 |0,_=>rfl
 |n+1,h=>by
  have C:=ZhU t n λi hi=>h i (by omega);simp only[tmD];cases hd:dst n with
  |none=>cases D n<;>cases D' n<;>exact C
  |some d=>
   by_cases j:d=t;subst j;rw[<-h n (by omega) hd];(cases D n with|true=>simp[ZcU]|false=>exact C);have g: ∀ (D:Nat->Bool),get (match D n,some d with|true,some d=>(d,v n)::tmD D dst v tm0 n|_,_=>tmD D dst v tm0 n) t=get (tmD D dst v tm0 n) t:=by intro D;cases D n with|true=>simp only[ZcU,if_neg (λe:t=d=>j e.symm)]|false=>rfl
   rw[g,g,C]
def ZlM {k:Nat}: ∀n,k<=n->(∀i,k<=i->i<n->D i=false)->tmD D dst v tm0 n=tmD D dst v tm0 k
 |0,h,_=>by rw[show k=0 from by omega]
 |n+1,h,hd=>by rcases Xa8 n k with h'|h';rw[show k=n+1 from by omega];simp only[tmD,hd n h' (by omega)];exact ZlM n h' λi j C=>hd i j (by omega)
def Zy5 {j:Nat} (U:D j=false) (C:D' j=true) (J: ∀i,i≠j->D' i=D i) {d:Nat} (hd:dst j=some d) (t:Nat): ∀n,j<n->(∀i,j<i->i<n->D i=true->dst i≠some d)->
 get (tmD D' dst v tm0 n) t=get ((d,v j)::tmD D dst v tm0 n) t
 |0,h,_=>oM
 |n+1,h,hc=>by by_cases I:j=n;grind [tmD,ZcU,ZhU];have R:=Zy5 U C J hd t n oM λi h1 h2=>hc i h1 oM;simp[tmD,J n (λe=>I e.symm)];cases aa:D n with|false=>exact R|true=>cases he:dst n with|none=>exact R|some e=>grind [ZcU]
def ZBe {j:Nat} (C:D' j=true) (I: ∀i,i≠j->D' i=D i) (hd:dst j=none) (t:Nat) (n:Nat):get (tmD D' dst v tm0 n) t=get (tmD D dst v tm0 n) t:=
 ZhU t n λi _ hi=>I i (by rintro rfl;rw[hd]at hi;cases hi)
def TRel.congr {tm tm':List (Nat×PV)} {a:Act} (j:TRel φ w S N tm a) (h: ∀t,get tm' t=get tm t):TRel φ w S N tm' a:=
 ⟨j.1,j.2.1,λi p hp=>j.2.2 i p (by rw[<-h];exact hp)⟩
end
def Frz (H H':List Mem):Prop:=H.length<=H'.length/\ ∀ (id:Nat) (m:Mem),H[id]? =some m->H'[id]? =some m\/ ∃es z b,m= .row es z b/\H'[id]? =some (.row es z false)
theorem Frz.refl (H:List Mem):Frz H H:=⟨Xae _,λ_ _ h=> .inl h⟩
def Frz.trans {H H' j:List Mem} (h:Frz H H') (C:Frz H' j):Frz H j:=⟨XaK h.1 C.1,λid m hm=>by rcases h.2 id m hm with I|⟨es,z,b,rfl,I⟩;exact C.2 id m I;rcases C.2 id _ I with J|⟨es',z',R,U,J⟩;grind;grind⟩
def Frz.sub {H H':List Mem} (h:Frz H H'):Sub H H':=λid m hm=>by rcases h.2 id m hm with j|⟨es,z,b,rfl,j⟩;grind [simM.refl];grind [simM]
def ZgJ: ∀ (ids:List Nat) (H:List Mem),Frz H (freeze ids H)
 | [],H=>Frz.refl H
 |i::ids,H=>by refine Frz.trans ⟨by rw[Zcx];exact Xae _, ?_⟩ (ZgJ ids _);grind [ZaV]
def Frz.app (H ms:List Mem):Frz H (H++ms):=⟨sM,λid m hm=> .inl (by rw[Xan (Xaf.1 hm).1];exact hm)⟩
theorem ZkV: ∀ (ids:List Nat) (H:List Mem) (id:Nat),id∈ids-> ∀es z m,(freeze ids H)[id]? =some (.row es z m)->m=false
 |i::ids,H,id,hid,es,z,m,h=>by have I:(freeze ids (freeze1 H i))[id]? =some (.row es z m):=h;by_cases hi:id∈ids;exact ZkV ids _ id hi es z m I;have hid:id=i:=(by rcases XaF.1 hid with h|h;exact h;exact absurd h hi);subst hid;obtain⟨b,j⟩:=ZgN ids _ _ _ _ _ I;have:b=false:=(by rcases ZaV H id id with R|⟨_,es',z',b',R,U⟩;unfold freeze1 at j;split at j;rename_i hx;rw[XaN (Xaf.1 hx).1]at j;cases j;rfl;rename_i J;exact absurd j (J _ _ _);rw[U]at j;cases j;rfl);subst this;rcases(ZgJ ids (freeze1 H id)).2 id _ j with C|⟨_,_,_,_,C⟩;rw[I]at C;cases C;rfl;rw[I]at C;cases C;rfl
section
variable {P:Program} {h:Hints} {E:Ev} {w:World} {φ:Phi} {S:Nat->Prop} {B:Nat} {H H':List Mem} {N:Nat}
def Inv.frz (hI:Inv φ H w S B) (hf:Frz H H'): ∃S',Inv φ H' w S' B/\Evo H.length B φ S w φ S' w:=by
 let l:=(List.range H.length).filter λi=>match H'[i]? with|some (.row _ _ false)=>true|_=>false
 let⟨S',R,U,h3⟩:=hI.freeze l
 refine⟨S',R.reheap ?_ (by rw[ZaX];exact hf.1),U⟩;intro i l' hl;left;have J:=(hI.live i l' hl).2.2;let⟨m,hm⟩: ∃m,H[i]? =some m:=⟨H[i],by simp[J]⟩
 rcases(ZgJ l H).2 i m hm with I|⟨es,z,b,rfl,I⟩;rw[I];rcases hf.2 i m hm with C|⟨es,z,b,rfl,C⟩;exact C;have:i∈l:=by grind
 grind [ZkV];rw[I];rcases hf.2 i _ hm with C|⟨es',z',b',h6,C⟩;cases b with
   |false=>exact C
   |true=>
    have:i ∉ l:=(by grind);exfalso;have keep: ∀ (ids:List Nat) (H:List Mem),i ∉ ids->(Am.freeze ids H)[i]? =H[i]? :=by intro ids;induction ids with|nil=>intro H _;rfl|cons j ids ih=>intro H hi;show(Am.freeze ids (Am.freeze1 H j))[i]? =_;rw[ih _ (λhx=>hi (Xai _ hx))];rcases ZaV H j i with h7|⟨rfl,_⟩;exact h7;exact absurd Xah hi
    rw[keep l H this,hm]at I;cases I
 cases h6;exact C
end
variable [Laid]
section
variable {P:Program} {h:Hints} {E:Ev} {w:World} {φ:Phi} {S:Nat->Prop} {B:Nat} {N:Nat} {ops:Array Oper} {ls:List Nat} {a:Act} {Q:Exit->Act->World->Prop}
def ZzG {o:Oper} {acc:List (Nat×Oper×List (Nat×PV)×PV)} {x:Nat×Oper×List (Nat×PV)×PV} (j:x∈acc) (hn: ¬ (isW h o=true/\Zgo o x.1=true)):x∈ZcW h o acc:=by unfold ZcW;cases hw:isW h o with|false=>rw[cond_false];exact j|true=>induction acc with|nil=>cases j|cons y acc C=>grind
def ZzX {o:Oper} {acc:List (Nat×Oper×List (Nat×PV)×PV)} {x:Nat×Oper×List (Nat×PV)×PV} (j:x∈ZcW h o acc):x∈acc:=by unfold ZcW at j;cases hw:isW h o with|false=>rw[hw,cond_false]at j;exact j|true=>rw[hw,cond_true]at j;induction acc with|nil=>cases j|cons y acc C=>have j:x∈(bif Zgo o y.1 then _ else y::_:List _):=j;cases I:Zgo o y.1 with|true=>rw[I,cond_true]at j;exact Xai _ (C j)|false=>grind
def ZxG {o:Oper}:ZcW h o []=[]:=by grind [ZcW,isW]
def ZvI {o:Oper} {j:Nat} (hw:Zgo o j=true): ∃e∈o.after,Region.binds .any e=true/\e.on=j:=by
 unfold Zgo at hw;have gen: ∀l:List Edge,(List.rec false (λe _ C=>bif Nat.beq e.on j&&Region.binds .any e then true else C) l)=true-> ∃e∈l,Region.binds .any e=true/\e.on=j:=by intro l;induction l with|nil=>intro h;cases h|cons e l C=>intro h;cases I:Nat.beq e.on j&&Region.binds .any e with|true=>simp_all|false=>grind
 grind
def Zf7 {o:Oper} {l:List Oper} {i:Nat} {acc:List (Nat×Oper×List (Nat×PV)×PV)} {s I:St} (R:ZbH P h E N ops ls (o::l) i acc s=some I):
 ∃s1,ZiX P h E N ops ls i o s=some s1/\((has i ls=true/\ ∃j,ZHF P h E ops i o s acc=some j/\ZbH P h E N ops ls l (i+1) j s1=some I)\/(has i ls=false/\Zfo P h E (ZcW h o acc) s1.hp=some ()/\ZbH P h E N ops ls l (i+1) (ZcW h o acc) s1=some I)):=by
 let⟨s1,U,C⟩:=Zam R
 refine⟨s1,U, ?_⟩;cases J:has i ls with|true=>rw[J,cond_true]at C;exact .inl ⟨rfl,Zam C⟩|false=>rw[J,cond_false]at C;(let⟨u,h5,h6⟩:=Zam C);exact .inr ⟨rfl,h5,h6⟩
def ZBz {u v:PV} (j:ZGN u v=true):u=v:=by
 unfold ZGN at j;split at j;grind;grind;rename_i a b;let⟨⟨la⟩⟩:=a
 simp_all;simp_all;simp_all;rfl;rfl;rfl;simp_all;simp_all;rename_i a u b;simp only[Xas,Nat.beq_eq,beq_iff_eq]at j;obtain⟨rfl,j⟩:=j;let⟨⟨la⟩⟩:=a
 simp_all;cases j
theorem Znu {s:PV->PV->Bool} (C: ∀u v,s u v=true->u=v): ∀ {a b:List PV},Zwf s a b=true->a=b
 | [],[],_=>rfl
 | [],_::_,h=>by cases h
 |_::_,[],h=>by cases h
 |x::a,y::b,h=>by have j:(s x y&&Zwf s a b)=true:=h;rw[Xas]at j;rw[C _ _ j.1,Znu C j.2]
def Zve {s} (C: ∀u v,s u v=true->u=v): ∀ {a b:List (List PV)},ZAb s a b=true->a=b
 | [],[],_=>rfl
 | [],_::_,h=>by cases h
 |_::_,[],h=>by cases h
 |x::a,y::b,h=>by have j:(Zwf s x y&&ZAb s a b)=true:=h;rw[Xas]at j;rw[Znu C j.1,Zve C j.2]
def Zij {s} (j: ∀u v,s u v=true->u=v): ∀u v,Zmq s u v=true->u=v:=by intro u v h;unfold Zmq at h;split at h;rw[Zve j h];rw[Znu j h];rw[Xas]at h;grind [Znu,Xay];exact j _ _ h
def ZfD: ∀u v,ZgW u v=true->u=v:=Zij (Zij (Zij (Zij λ_ _ h=>ZBz h)))
def Zyn {u v} (j:Ziw u v=true):u=v:=by unfold Ziw at j;cases h:ZgW u v with|true=>exact ZfD _ _ h|false=>rw[h,cond_false]at j;exact @dT _ (Classical.propDecidable _) j
def Zs1 v:Ziw v v=true:=by unfold Ziw;cases ZgW v v with|true=>rfl|false=>grind
def ZmM {H}: ∀ {acc:List (Nat×Oper×List (Nat×PV)×PV)},Zfo P h E acc H=some ()-> ∀x∈acc,ZaU P h E H (ev x.2.2.1) x.2.1=some x.2.2.2
 | [],_,x,hx=>by cases hx
 |y::acc,I,x,hx=>by have j:=I;(let⟨v,J,j⟩:=Zam j);cases C:Ziw v y.2.2.2 with|false=>rw[C,cond_false]at j;cases j|true=>rw[C,cond_true]at j;rcases XaF.1 hx with rfl|hx;rw[J,Zyn C];exact ZmM j x hx
def ZkP {i o s acc j} (C:ZHF P h E ops i o s acc=some j):
 (ZeT ops s.tm o=some true/\ ∃v,ZaU P h E s.hp (ev s.tm) o=some v/\j=(i,o,s.tm,v)::acc)\/(ZeT ops s.tm o=some false/\j=acc):=by
 let⟨b,I,C⟩:=Zam C
 cases b with|true=>(cases hl:ZaU P h E s.hp (ev s.tm) o with|none=>rw[hl]at C;cases C|some v=>rw[hl]at C;cases C;exact .inl ⟨I,v,rfl,rfl⟩)|false=>rw[cond_false]at C;cases C;exact .inr ⟨I,rfl⟩
def ZrN {i o s C} (hi:has i ls=true) (j:ZiX P h E N ops ls i o s=some C):C.hp=s.hp:=by
 unfold ZiX at j;rw[hi,cond_true]at j;let⟨b,_,j⟩:=Zam j
 cases b with|true=>((let⟨v,_,j⟩:=Zam j);cases hp:ZgX N o.dst v s.tm with|none=>rw[hp]at j;cases j|some tm=>rw[hp]at j;cases j;rfl)|false=>cases hp:ZgX N o.dst (.tup []) s.tm with|none=>rw[hp]at j;cases j|some tm=>rw[hp]at j;cases j;rfl
def ZI6: ∀ (l:List Oper) (i:Nat) (acc:List (Nat×Oper×List (Nat×PV)×PV)) (st J:St),ops.toList.drop i=l->i<=ops.size->ZbH P h E N ops ls l i acc st=some J->
 (∀x∈acc,ZaU P h E st.hp (ev x.2.2.1) x.2.1=some x.2.2.2)->
 ∃s:Nat->St,s i=st/\s ops.size=J/\(∀j o,i<=j->ops[j]? =some o->ZiX P h E N ops ls j o (s j)=some (s (j+1)))/\
  (∀x∈acc,∀m,i<=m->m<=ops.size->(∀n y,i<=n->n<m->ops[n]? =some y->has n ls=false->isW h y=true->Zgo y x.1=false)->ZaU P h E (s m).hp (ev x.2.2.1) x.2.1=some x.2.2.2)/\
  (∀j o v,i<=j->ops[j]? =some o->has j ls=true->ZeT ops (s j).tm o=some true->ZaU P h E (s j).hp (ev (s j).tm) o=some v-> ∀m,j<=m->m<=ops.size->(∀n y,j<=n->n<m->ops[n]? =some y->has n ls=false->isW h y=true->Zgo y j=false)->ZaU P h E (s m).hp (ev (s j).tm) o=some v)
 | [],i,acc,st,J,hl,hi,aa,I=>by have aq:ops.size<=i:=(by simp_all);cases aa;refine⟨λ_=>st,rfl,rfl,λj o hj ho=> ?_,λx hx m _ _ _=>I x hx,λj o v hj ho=> ?_⟩;have:=(Xbj.1 ho).1;omega;have:=(Xbj.1 ho).1;omega
 |o::l,i,acc,st,J,hl,hi,aa,I=>by
  have ae:i<ops.size:=(by rcases Xa8 i ops.size with h|h;exact h;rw[List.drop_eq_nil_of_le (by simpa using h)]at hl;cases hl);have ho:ops[i]? =some o:=(by have:(ops.toList.drop i)[0]? =some o:=(by rw[hl];rfl);rw[List.getElem?_drop]at this;simpa using this);(let⟨s1,h1,h2⟩:=Zf7 aa);have main: ∃C,(∀x∈acc,¬ (has i ls=false/\isW h o=true/\Zgo o x.1=true)->x∈C)/\(has i ls=true->ZeT ops st.tm o=some true-> ∀v,ZaU P h E st.hp (ev st.tm) o=some v->(i,o,st.tm,v)∈C)/\(∀x∈C,ZaU P h E s1.hp (ev x.2.2.1) x.2.1=some x.2.2.2)/\ZbH P h E N ops ls l (i+1) C s1=some J:=by rcases h2 with⟨h3,C,h4,h5⟩|⟨h3,h4,h5⟩;refine⟨C, ?_, ?_, ?_,h5⟩;intro x hx _;rcases ZkP h4 with⟨_,v,_,rfl⟩|⟨_,rfl⟩;exact Xai _ hx;exact hx;intro _ hw v R;rcases ZkP h4 with⟨_,v',af,rfl⟩|⟨ag,_⟩;rw[R]at af;cases af;exact Xah;rw[hw]at ag;cases ag;rw[ZrN h3 h1];intro x hx;rcases ZkP h4 with⟨_,v,R,rfl⟩|⟨_,rfl⟩;rcases XaF.1 hx with rfl|hx;exact R;exact I x hx;exact I x hx;exact⟨ZcW h o acc,λx hx hn=>ZzG hx λ⟨w1,w2⟩=>hn ⟨h3,w1,w2⟩,λh=>(by rw[h3]at h;cases h),ZmM h4,h5⟩
  (let⟨C,ah,ai,aj,ak⟩:=main);(let⟨s,e1,e2,e3,e4,e5⟩:=ZI6 l (i+1) C s1 J (by rw[<-Xbl,hl];rfl) ae ak aj);have hs: ∀m,i+1<=m->(if m<=i then st else s m)=s m:=λm hm=>if_neg oM
  refine⟨λj=>if j<=i then st else s j,sM,by simp[if_neg (Nat.not_le.2 ae)];exact e2,λj x hj hx=> ?_,λx hx m hm U hq=> ?_,λj x v hj hx hb hw R m hm U hq=> ?_⟩;by_cases ab:j=i;subst ab;rw[ho]at hx;cases hx;simp[if_true,if_neg (show ¬j+1<=j by omega),e1];exact h1;simp[if_neg (show ¬j<=i by omega),if_neg (show ¬j+1<=i by omega)];exact e3 j x oM hx;by_cases al:m=i;subst al;simp[if_true];exact I x hx;simp[hs m oM];exact e4 x (ah x hx λ⟨w0,w1,w2⟩=>(by have:=hq i o (Xae _) oM ho w0 w1;rw[w2]at this;cases this)) m oM U λn y an ad=>hq n y oM ad;by_cases ab:j=i;subst ab;rw[ho]at hx;cases hx;simp[if_true]at R hw|-;by_cases ao:m=j;subst ao;simp[if_true];exact R;simp[hs m oM];exact e4 _ (ai hb hw v R) m oM U λn y an ad=>hq n y oM ad;simp[hs j oM]at R hw|-;simp[hs m oM];exact e5 j x v oM hx hb hw R m hm U hq
structure At (P:Program) (h:Hints) (E:Ev) (N:Nat) (ops:Array Oper) (ls:List Nat) (i:Nat) (o:Oper) (st st':St) (v:PV):Prop where
 put:ZgX N o.dst v st.tm=some st'.tm
 kind:(ZeT ops st.tm o=some false/\v= .tup []/\st'.hp=st.hp)\/
  (ZeT ops st.tm o=some true/\has i ls=true/\ZaU P h E st.hp (ev st.tm) o=some v/\st'.hp=st.hp)\/
  (ZeT ops st.tm o=some true/\has i ls=false/\opA P h E st.hp (ev st.tm) o=some (v,st'.hp))
def Ztx {x:Option (List (Nat×PV))} {hp:List Mem} {st:St} (j:x.map (λtm=>(⟨tm,hp⟩:St))=some st):x=some st.tm/\st.hp=hp:=by cases x with|none=>simp at j|some y=>simp at j;subst j;exact⟨rfl,rfl⟩
def ZtX {i:Nat} {o:Oper} {st J:St} (j:ZiX P h E N ops ls i o st=some J): ∃v,At P h E N ops ls i o st J v:=by unfold ZiX at j;cases hl:has i ls with|true=>(rw[hl,cond_true]at j;(let⟨b,R,j⟩:=Zam j);cases b with|true=>(let⟨v,U,j⟩:=Zam j);(let⟨C,I⟩:=Ztx j);exact⟨v,C, .inr (.inl ⟨R,hl,U,I⟩)⟩|false=>(let⟨C,I⟩:=Ztx j);exact⟨_,C, .inl ⟨R,rfl,I⟩⟩)|false=>rw[hl,cond_false]at j;(let⟨b,R,j⟩:=Zam j);cases b with|true=>(let⟨⟨v,H'⟩,U,j⟩:=Zam j);(let⟨C,I⟩:=Ztx j);exact⟨v,C, .inr (.inr ⟨R,hl,by rw[I];exact U⟩)⟩|false=>(let⟨C,I⟩:=Ztx j);exact⟨_,C, .inl ⟨R,rfl,I⟩⟩
abbrev Zd2 (ops:Array Oper) (i:Nat):Option Tmp:=(ops[i]?).bind (·.dst)
structure Tr (P:Program) (h:Hints) (E:Ev) (N:Nat) (ops:Array Oper) (ls:List Nat) (s:Nat->St) (v:Nat->PV):Prop where
 at_: ∀i o,ops[i]? =some o->At P h E N ops ls i o (s i) (s (i+1)) (v i)
 lt: ∀j o u,ops[j]? =some o->has j ls=true->ZeT ops (s j).tm o=some true->ZaU P h E (s j).hp (ev (s j).tm) o=some u-> ∀m,j<=m->m<=ops.size->(∀n y,j<=n->n<m->ops[n]? =some y->has n ls=false->isW h y=true->Zgo y j=false)->ZaU P h E (s m).hp (ev (s j).tm) o=some u
variable {s:Nat->St} {v:Nat->PV}
def Tr.op (_:Tr P h E N ops ls s v) {i:Nat} (hi:i<ops.size): ∃o,ops[i]? =some o:=⟨ops[i],by simp[hi]⟩
def Tr.len1 (T:Tr P h E N ops ls s v) (hG:Good P h E) {i:Nat} (hi:i<ops.size):(s i).hp.length<=(s (i+1)).hp.length:=by
 let⟨o,ho⟩:=T.op hi
 rcases(T.at_ i o ho).kind with⟨_,_,e⟩|⟨_,_,_,e⟩|⟨_,_,e⟩;grind;grind;exact ZrT hG e
def Tr.len (T:Tr P h E N ops ls s v) (hG:Good P h E) {i:Nat}: ∀j,i<=j->j<=ops.size->(s i).hp.length<=(s j).hp.length
 |0,h,_=>by rw[show i=0 from by omega];exact Xae _
 |j+1,h,I=>by by_cases C:i=j+1;grind;exact XaK (T.len hG j oM oM) (T.len1 hG oM)
def Tr.light (T:Tr P h E N ops ls s v) {i:Nat} (hi:i<ops.size) (hl:has i ls=true):(s (i+1)).hp=(s i).hp:=by
 let⟨o,ho⟩:=T.op hi
 rcases(T.at_ i o ho).kind with⟨_,_,e⟩|⟨_,_,_,e⟩|⟨_,e,_⟩;exact e;exact e;rw[hl]at e;cases e
def Tr.lights (T:Tr P h E N ops ls s v) {i:Nat}: ∀j,i<=j->j<=ops.size->(∀x,i<=x->x<j->has x ls=true)->(s j).hp=(s i).hp
 |0,h,_,_=>by rw[show i=0 from by omega]
 |j+1,h,R,I=>by by_cases C:i=j+1;subst C;rfl;rw[T.light oM (I j oM oM)];exact T.lights j oM oM λx J U=>I x J oM
def Tr.frz1 (T:Tr P h E N ops ls s v) {i:Nat} (hi:i<ops.size) (hw: ∀o,ops[i]? =some o->has i ls=false->isW h o=false):Frz (s i).hp (s (i+1)).hp:=by
 let⟨o,ho⟩:=T.op hi
 rcases(T.at_ i o ho).kind with⟨_,_,e⟩|⟨_,_,_,e⟩|⟨_,C,e⟩;grind [Frz.refl];grind [Frz.refl];rw[ZwK (hw o ho C)]at e;unfold Zj6 at e;cases j:opR P h E (s i).hp (s i).hp.length (ev (s i).tm) o with|none=>simp[j]at e|some x=>(let⟨q,ms,fz⟩:=x);simp[j,Xau,Xaj,Prod.mk.injEq]at e;rw[<-e.2];exact(ZgJ _ _).trans (Frz.app _ _)
def Tr.frz (T:Tr P h E N ops ls s v) {i:Nat}: ∀j,i<=j->j<=ops.size->(∀x o,i<=x->x<j->ops[x]? =some o->has x ls=false->isW h o=false)->Frz (s i).hp (s j).hp
 |0,h,_,_=>by rw[show i=0 from by omega];exact Frz.refl _
 |j+1,h,J,hw=>by by_cases C:i=j+1;grind [Frz.refl];exact(T.frz j oM oM λx o I R=>hw x o I oM).trans (T.frz1 oM λo ho=>hw j o oM oM ho)
def Zxy {d:Option Tmp} {u:PV} {tm tm':List (Nat×PV)} (hp:ZgX N d u tm=some tm'):(∀t,d=some t->t<N/\tm'=(t,u)::tm)/\(d=none->tm'=tm):=by unfold ZgX at hp;cases d with|none=>simp at hp;exact⟨by simp,λ_=>hp.symm⟩|some t=>simp only[]at hp;obtain⟨j,C⟩:=Zau hp;cases C;exact⟨λI e=>by cases e;exact⟨j,rfl⟩,by simp⟩
def Tr.full (T:Tr P h E N ops ls s v) {D:Nat->Bool}: ∀m,m<=ops.size->(∀i,i<m->D i=true)->tmD D (Zd2 ops) v (s 0).tm m=(s m).tm
 |0,_,_=>rfl
 |m+1,hm,hD=>by(let⟨o,ho⟩:=T.op hm);have j:=T.full m oM λi hi=>hD i oM;have hp:=Zxy (T.at_ m o ho).put;simp[tmD,hD m oM,Zd2,ho,Xad];cases hd:o.dst with|none=>rw[(hp.2 hd)];exact j|some d=>rw[(hp.1 d hd).2,<-j]
def FrzAt (H H':List Mem) (id:Nat):Prop:= ∀m,H[id]? =some m->H'[id]? =some m\/ ∃es z b,m= .row es z b/\H'[id]? =some (.row es z false)
def FrzAt.trans {H H' j:List Mem} {id:Nat} (J:FrzAt H H' id) (I:FrzAt H' j id):FrzAt H j id:=λm hm=>by rcases J m hm with C|⟨es,z,b,rfl,C⟩;exact I m C;rcases I _ C with R|⟨es',z',U,h5,R⟩;grind;grind
def Frz.at {H H':List Mem} (h:Frz H H') (id:Nat):FrzAt H H' id:=λm hm=>h.2 id m hm
structure DInv (h:Hints) (N:Nat) (ops:Array Oper) (ls:List Nat) (s:Nat->St) (v:Nat->PV) (B:Nat) (φ0:Phi) (S0:Nat->Prop) (w0:World) (D:Nat->Bool) (b m:Nat) (φ:Phi) (S:Nat->Prop) (w:World) (a:Act):Prop where
 tm:TRel φ w S N (tmD D (Zd2 ops) v (s 0).tm ops.size) a
 seg:b<=ops.size/\m=Znz h ls ops b
 inv:Inv φ (s m).hp w S B
 un: ∀i,i<m->has i ls=false->D i=false-> ∀id,(s i).hp.length<=id->id<(s (i+1)).hp.length->φ id=none/\FrzAt (s (i+1)).hp (s m).hp id
 hi: ∀i,m<=i->i<ops.size->has i ls=false->D i=false
 lo: ∀i,i<b->has i ls=false->D i=true\/ ∃o,ops[i]? =some o/\isA o=true
 evo:Evo (s 0).hp.length B φ0 S0 w0 φ S w
variable {φ0:Phi} {S0:Nat->Prop} {w0:World} {D:Nat->Bool} {b m:Nat}
def ZJ3 {ρ:Operand->Option PV} {base:Nat} {o:Oper} {H:List Mem} (I:isA o=true) {r:PV×List Mem×List Nat} (C:opR P h E H base ρ o=some r) (H':List Mem):opR P h E H' base ρ o=some r/\r.2.2=[]:=by
 unfold isA at I;unfold opR at C|-;have j: ∀ {α:Type} {x:Option α} {f:α->PV} {g:α->List Mem},x.map (λa=>(f a,g a,([]:List Nat)))=some r->r.2.2=[]:=λ{α x f g} J=>by cases x with|none=>simp at J|some a=>simp at J;subst J;rfl
 cases R:o.op<;>simp[R]at I C|- <;>try (cases I;done)
 exact⟨C,j C⟩;exact⟨C,j C⟩;refine⟨C, ?_⟩;let⟨ps,_,C⟩:=Zam C
 exact j C
def ZFj {o} (j:isA o=true):isW h o=false:=by grind [isA,isW]
def Zzr (hG:Good P h E) (hd:Zio h ls ops=true) (T:Tr P h E N ops ls s v) (I:DInv h N ops ls s v B φ0 S0 w0 D b m φ S w a) (ay:Zg4 ops D) {j o} (ho:ops[j]? =some o) (ae:D j=false)
 (az:Zg4 ops λi=>D i||i==j) {K} (hK: ∀b' m' φ' S' w' a',DInv h N ops ls s v B φ0 S0 w0 (λi=>D i||i==j) b' m' φ' S' w' a'->K a' w'):wpOp P ops Q j K a w:=by
 have ah:=Zk1 hd;have aq:=(Xbj.1 ho).1;have ab: ∀i,i≠j->(D i||i==j)=D i:=λi hi=>by simp[hi]
 let⟨bm,af,ai,aj⟩:=Ze1 (h:=h) (ls:=ls) I.seg.1
 rw[<-I.seg.2]at bm af ai aj;have early: ∀i x,i<j->ops[i]? =some x->D i=true\/(x.apart ops o=true/\(has i ls=true\/(has j ls=true/\isW h x=false)\/j<Znz h ls ops i\/(isA x=true/\(ZhA o=true\/isW h o=false)))):=by intro i x U hx;have:=ah.2 _ az i j x o U hx ho sM;rw[ab i oM]at this;exact this
 have late: ∀i y,j<i->ops[i]? =some y->D i=true->o.apart ops y=true:=by intro i y U R ag;rcases ah.2 D ay j i o y U ho R ag with h1|h1;rw[ae]at h1;cases h1;exact h1.1
 have bn:j<=m:=by rcases Xa8 m j with hmj|hmj;(let⟨h1,y,R,hw⟩:=aj oM);have bo:=I.hi m (Xae _) oM h1;rcases early m y hmj R with h2|⟨_,h2|⟨_,h2⟩|h2|⟨h2,_⟩⟩;rw[bo]at h2;cases h2;rw[h1]at h2;cases h2;rw[hw]at h2;cases h2;have:=(Ze1 (h:=h) (ls:=ls) (ops:=ops) (i:=m) af);exfalso;rcases Xa8 m (Znz h ls ops m)with h3|h3;have:=this.2.2.1 m y R (Xae _) h3 h1;rw[hw]at this;cases this;omega;rw[ZFj (h:=h) h2]at hw;cases hw;exact hmj
 have looks: ∀t∈o.looksAt ops,get (tmD D (Zd2 ops) v (s 0).tm ops.size) t=get (s j).tm t:=by intro t ht;have h1:get (tmD D (Zd2 ops) v (s 0).tm ops.size) t=get (tmD (λi=>decide (i<j)) (Zd2 ops) v (s 0).tm ops.size) t:=(by refine ZhU t _ λi hi bp=> ?_;(let⟨x,hx⟩:=T.op hi);have a1:x.dst=some t:=(by simpa[Zd2,hx]using bp);rcases Nat.lt_trichotomy i j with h2|h2|h2;rcases early i x h2 hx with h3|h3;simp[h3,h2];exact absurd ht ((Oper.apart_spec h3.1).1 t a1);subst h2;simp[ae];cases ag:D i with|false=>simp;omega|true=>exact absurd ht ((Oper.apart_spec (late i x h2 hx ag)).2.2 t a1));rw[h1,ZlM (k:=j) _ oM (λi h2 _=>by simp;omega),T.full j oM (λi h2=>by simp[h2])]
 have a6: ∀t,get (tmD (λi=>D i||i==j) (Zd2 ops) v (s 0).tm ops.size) t=get (match o.dst with|some d=>(d,v j)::tmD D (Zd2 ops) v (s 0).tm ops.size|none=>tmD D (Zd2 ops) v (s 0).tm ops.size) t:=by intro t;cases hd:o.dst with|none=>exact ZBe (j:=j) sM (λi hi=>ab i hi) (by simp[Zd2,ho,hd]) t _|some d=>refine Zy5 (j:=j) ae sM (λi hi=>ab i hi) (by simp[Zd2,ho,hd]) t _ aq ?_;intro i h1 h2 h3 h4;(let⟨y,R⟩:=T.op h2);exact(Oper.apart_spec (late i y h1 R h3)).2.1 d hd (by simpa[Zd2,R]using h4)
 have a7:=T.at_ j o ho;have aa: ∀ {φ':Phi} {S':Nat->Prop} {w':World} {u:Value},TRel φ' w' S' N (tmD D (Zd2 ops) v (s 0).tm ops.size) a->VRel φ' w' S' (v j) u->TRel φ' w' S' N (tmD (λi=>D i||i==j) (Zd2 ops) v (s 0).tm ops.size) (a.put o.dst u):=by intro φ' S' w' u ht hv;refine TRel.congr (Zja (tm':=match o.dst with|some d=>(d,v j)::tmD D (Zd2 ops) v (s 0).tm ops.size|none=>tmD D (Zd2 ops) v (s 0).tm ops.size) ?_ ht hv) a6;have hp:=Zxy a7.put;unfold ZgX;cases hd:o.dst with|none=>rfl|some d=>simp only[if_pos (hp.1 d hd).1]
 have stay: ∀ {φ':Phi} {S':Nat->Prop} {w':World} {a':Act},has j ls=true\/j<m->TRel φ' w' S' N (tmD (λi=>D i||i==j) (Zd2 ops) v (s 0).tm ops.size) a'->Inv φ' (s m).hp w' S' B->Evo (s 0).hp.length B φ S w φ' S' w'->
  (∀i,i<m->has i ls=false->D i=false->i≠j-> ∀id,(s i).hp.length<=id->id<(s (i+1)).hp.length->φ' id=none)->K a' w':=by
  intro φ' S' w' a' hc ht hI hE ar;refine hK b m φ' S' w' a' ⟨ht,I.seg,hI, ?_, ?_, ?_,I.evo.trans hE⟩;intro i h1 h2 h3 id h4 J;have U:i≠j:=(by rintro rfl;simp at h3);rw[ab i U]at h3;exact⟨ar i h1 h2 h3 U id h4 J,(I.un i h1 h2 h3 id h4 J).2⟩;intro i h1 h2 h3;have U:i≠j:=(by rintro rfl;rcases hc with hc|hc;rw[h3]at hc;cases hc;omega);show(D i||i==j)=false;rw[ab i U];exact I.hi i h1 h2 h3;intro i h1 h2;rcases I.lo i h1 h2 with h3|h3;exact .inl (by simp[h3]);exact .inr h3
 have left:has j ls=false->j=m-> ∀i,i<m->has i ls=false->D i=false-> ∃x,ops[i]? =some x/\isA x=true/\(ZhA o=true\/isW h o=false):=by intro hj C i h1 h2 h3;(let⟨x,hx⟩:=T.op (i:=i) oM);(let⟨_,y,R,hw⟩:=aj oM);rw[<-C,ho]at R;cases R;rcases early i x oM hx with h4|⟨_,h4|⟨h4,_⟩|h4|h4⟩;rw[h3]at h4;cases h4;rw[h2]at h4;cases h4;rw[hj]at h4;cases h4;have:=(Ze1 (h:=h) (ls:=ls) (ops:=ops) (i:=i) oM).2.2.1 j o ho oM h4 hj;rw[hw]at this;cases this;exact⟨x,hx,h4.1,h4.2⟩
 have move: ∀ {φ':Phi} {S':Nat->Prop} {w':World} {a':Act},has j ls=false->j=m->TRel φ' w' S' N (tmD (λi=>D i||i==j) (Zd2 ops) v (s 0).tm ops.size) a'->Inv φ' (s (j+1)).hp w' S' B->Evo (s 0).hp.length B φ S w φ' S' w'->
  (∀i,i<m->has i ls=false->D i=false-> ∀id,(s i).hp.length<=id->id<(s (i+1)).hp.length->φ' id=none/\FrzAt (s m).hp (s (j+1)).hp id)->K a' w':=by
  intro φ' S' w' a' hj C ht hI hE ar;have a8:j+1<=ops.size:=aq;(let⟨n1,n2,n3,_⟩:=Ze1 (h:=h) (ls:=ls) a8);have hF:=T.frz (i:=j+1) (Znz h ls ops (j+1)) n1 n2 λx y h1 h2 R h3=>n3 x y R h1 h2 h3;(let⟨S2,bq,ba⟩:=hI.frz hF);have hlen:=T.len hG (i:=j+1) (Znz h ls ops (j+1)) n1 n2;refine hK (j+1) (Znz h ls ops (j+1)) φ' S2 w' a' ⟨ht.evo ba hI (Xae _),⟨a8,rfl⟩,bq, ?_, ?_, ?_,I.evo.trans (hE.trans (ba.mono (XaK (T.len hG j (Xak _) oM) (T.len1 hG aq))))⟩;intro i h1 h2 h3 id h4 J;have U:i≠j:=(by rintro rfl;simp at h3);rw[ab i U]at h3;rcases Xa8 i j with h6|h6;(let⟨h7,h8⟩:=ar i oM h2 h3 id h4 J);exact⟨h7,((I.un i oM h2 h3 id h4 J).2.trans h8).trans (hF.at id)⟩;have h7:=T.len hG (i:=j+1) i oM oM;refine⟨?_,(T.frz (i:=i+1) (Znz h ls ops (j+1)) oM n2 λx y g1 g2 R g3=>n3 x y R oM g2 g3).at id⟩;(cases hc:φ' id with|none=>rfl|some l=>have:=(hI.live id l hc).2.2;omega);intro i h1 h2 h3;show(D i||i==j)=false;rw[ab i oM];exact I.hi i oM h2 h3;intro i h1 h2;by_cases U:i=j;exact .inl (by simp[U]);cases ag:D i with|true=>exact .inl (by simp[ag])|false=>(let⟨x,hx,hA,_⟩:=left hj C i oM h2 ag);exact .inr ⟨x,hx,hA⟩
 have ad:(s 0).hp.length<=(s m).hp.length:=T.len hG m oM af;have hw:=ZrQ (ops:=ops) looks;unfold wpOp;simp only[ho];rcases a7.kind with⟨h1,h2,h3⟩|⟨h1,h2,h3,h4⟩|⟨h1,h2,h3⟩;rw[Zfj (hw.trans h1) I.tm];simp only[Xbh,if_false];have hp:=aa I.tm (show VRel φ w S (v j) undef by rw[h2];exact ZeQ);by_cases hc:has j ls=true\/j<m;exact stay hc hp I.inv (Evo.refl _ _ _ _ _) (λi h4 J h6 _ id h7 h8=>(I.un i h4 J h6 id h7 h8).1);have bs:has j ls=false:=by cases hh:has j ls<;>simp_all
 have C:j=m:=oM;refine move bs C hp (by rw[h3,C];exact I.inv) (Evo.refl _ _ _ _ _) λi h4 J h6 id h7 h8=>⟨(I.un i h4 J h6 id h7 h8).1, ?_⟩;rw[h3,C];exact λm hm=> .inl hm;rw[Zfj (hw.trans h1) I.tm];simp only[if_true];left;have hl:ZaU P h E (s m).hp (ev (tmD D (Zd2 ops) v (s 0).tm ops.size)) o=some (v j):=by rw[Zok (ZtL looks)];refine T.lt j o _ ho h2 h1 h3 m bn af λn y b7 bt R bc au=> ?_;have bu:n<b:=(by rcases Xa8 n b with h9|h9;exact h9;have:=ai n y R h9 bt bc;rw[au]at this;cases this);have bw:D n=true:=(by rcases I.lo n bu bc with h9|⟨y',bf,h9⟩;exact h9;rw[R]at bf;cases bf;rw[ZFj (h:=h) h9]at au;cases au);cases bx:Zgo y j with|false=>rfl|true=>(let⟨e,bz,b0,b1⟩:=ZvI bx);have:=ay n y R bw e bz b0;rw[b1,ae]at this;cases this
 unfold ZaU at hl;let⟨⟨q,ms,fz⟩,hr,hl⟩:=Zam hl
 split at hl;rename_i q' heq;cases heq;cases hl;refine Zyi hG I.inv I.tm hr (λi m hm=>by simp at hm) (λid hid=>by simp at hid) ?_;intro u w' φ' S' J h6 h7 h8;refine stay (.inl h2) (aa (I.tm.evo h6 I.inv (Xae _)) h7) J (h6.mono ad) ?_;intro i h9 h10 ak _ id al an;rw[h8 id sM];exact(I.un i h9 h10 ak id al an).1;cases hl;rw[Zfj (hw.trans h1) I.tm];simp only[if_true];left;rw[<-Zzd (ZtL looks)]at h3;by_cases av:j<m;have b2:isW h o=false/\(b<=j\/isA o=true):=by rcases Xa8 j b with h4|h4;rcases I.lo j h4 h2 with J|⟨o',bg,J⟩;rw[ae]at J;cases J;rw[ho]at bg;cases bg;exact⟨ZFj J, .inr J⟩;exact⟨ai j o ho h4 av h2, .inl h4⟩
 let⟨hW,hA⟩:=b2
 rw[ZwK hW]at h3;unfold Zj6 at h3;cases hr:opR P h E (s j).hp (s j).hp.length (ev (tmD D (Zd2 ops) v (s 0).tm ops.size)) o with|none=>simp[hr]at h3|some x=>(let⟨q,ms,fz⟩:=x);simp only[hr,Xau,Xaj,Prod.mk.injEq]at h3;obtain⟨rfl,aw⟩:=h3;have b8:(s (j+1)).hp.length=(s j).hp.length+ms.length:=(by rw[<-aw];simp[ZaX]);have b3:opR P h E (s m).hp (s j).hp.length (ev (tmD D (Zd2 ops) v (s 0).tm ops.size)) o=some (v j,ms,fz):=(by rcases hA with hA|hA;exact Zvg (T.frz m oM af λx y g1 g2 R g3=>ai x y R oM g2 g3).sub hr;exact(ZJ3 hA hr _).1);refine Zyi hG I.inv I.tm b3 ?_ ?_ ?_;intro i x hx;have b9:=(Xaf.1 hx).1;have h4:(s (j+1)).hp[(s j).hp.length+i]? =some x:=(by rw[<-aw,Xaw (by rw[ZaX];omega),ZaX,show(s j).hp.length+i-(s j).hp.length=i from by omega];exact hx);(let⟨J,h6⟩:=I.un j av h2 ae ((s j).hp.length+i) oM oM);rcases h6 _ h4 with h6|⟨es,z,b,rfl,h6⟩;exact⟨x,h6, .inl rfl,J⟩;exact⟨_,h6, .inr ⟨es,z,b,rfl,rfl⟩,J⟩;intro id hid l es z bb hl hm;rcases hA with hA|hA;have b4:Frz (s (j+1)).hp (s m).hp:=T.frz m oM af λx y g1 g2 R g3=>ai x y R oM g2 g3;have ao:=ZI8 hr id hid;(let⟨m0,ax⟩: ∃m0,(s j).hp[id]? =some m0:=⟨(s j).hp[id],by simp[ao]⟩);have hb:bb=false:=(by(let⟨m1,bh,ca⟩:=ZdJ fz (s j).hp id m0 ax);have h4:(s (j+1)).hp[id]? =some m1:=(by rw[<-aw,Xan (by rw[ZaX];exact ao)];exact bh);rcases b4.2 id m1 h4 with J|⟨es',z',b',_,J⟩;rw[hm]at J;cases J;exact ZkV fz _ id hid _ _ _ bh;rw[hm]at J;cases J;rfl);subst hb;exact(I.inv.row id l es z false hl hm).frz rfl;have:=(ZJ3 hA hr []).2;simp only at this;rw[this]at hid;cases hid;intro u w' φ' S' J h6 h7 h8;refine stay (.inr av) (aa (I.tm.evo h6 I.inv (Xae _)) h7) J (h6.mono ad) ?_;intro i h9 h10 ak al id an bj;have:φ' id=φ id:=(by apply h8;rcases Nat.lt_or_gt_of_ne al with h15|h15;have:=T.len hG (i:=i+1) j oM oM;omega;have:=T.len hG (i:=j+1) i oM oM;omega);rw[this];exact(I.un i h9 h10 ak id an bj).1
 have C:j=m:=oM;have hs:(s j).hp=(s m).hp:=by rw[C]
 have bk:(s 0).hp.length<=(s j).hp.length:=by rw[hs];exact ad
 cases bl:ZhA o with|true=>have b5:isW h o=true:=(by(let⟨_,y,R,hw⟩:=aj oM);rw[<-C,ho]at R;cases R;exact hw);rw[Zy8 b5]at h3;refine ZFY hG bl (by rw[hs];exact I.inv) I.tm h3 ?_;intro u w' φ' S' h4 J h6 h7;refine move h2 C (aa (I.tm.evo J I.inv (by rw[hs];exact Xae _)) h6) h4 (J.mono bk) ?_;intro i h8 h9 h10 id ak al;have an:=(I.un i h8 h9 h10 id ak al).1;have bj:=T.len hG (i:=i+1) j oM oM;(let⟨h15,b6⟩:=h7 id oM an);exact⟨h15,λm0 ax=>b6 m0 (by rw[hs];exact ax)⟩|false=>refine ZEi hG (by rw[hs];exact I.inv) I.tm h3 ?_;intro u w' φ' S' h4 J h6;refine move h2 C (aa (I.tm.evo J I.inv (by rw[hs];exact Xae _)) h6) h4 (J.mono bk) ?_;intro i h7 h8 h9 _ _ _;(let⟨_,_,_,h10⟩:=left h2 C i h7 h8 h9);(let⟨_,y,R,hw⟩:=aj oM);rw[<-C,ho]at R;cases R;rw[bl,hw]at h10;rcases h10 with h10|h10<;>cases h10
def Zwm {l:List Nat} {p q j} (h: ∀x,q x=true->p x=true) (C:j∈l) (J:p j=true) (R:q j=false):l.countP q<l.countP p:=by induction l with|nil=>simp at C|cons x l U=>have hle:l.countP q<=l.countP p:=List.countP_mono_left λy _ I=>h y I;grind
def ZBc (hG:Good P h E) (hd:Zio h ls ops=true) (T:Tr P h E N ops ls s v)
 (hQ: ∀a' w' φ' S',Inv φ' (s ops.size).hp w' S' B->Evo (s 0).hp.length B φ0 S0 w0 φ' S' w'->TRel φ' w' S' N (s ops.size).tm a'->Q .normal a' w'):
 ∀ (fuel:Nat) (listed:Array Bool) (b m:Nat) (φ:Phi) (S:Nat->Prop) (w:World) (a:Act),listed.size=ops.size->Zg4 ops (λi=>listed.getD i false)->DInv h N ops ls s v B φ0 S0 w0 (λi=>listed.getD i false) b m φ S w a->
   (List.range ops.size).countP (λi=> !listed.getD i false)<=fuel->wpAny P .any ops Q fuel listed a w:=by
 have done: ∀ (listed:Array Bool) (b m:Nat) (φ:Phi) (S:Nat->Prop) (w:World) (a:Act),listed.size=ops.size->DInv h N ops ls s v B φ0 S0 w0 (λi=>listed.getD i false) b m φ S w a->(∀i,i<ops.size->listed.getD i false=true)->Q .normal a w:=by intro listed b m φ S w a J I C;(let⟨_,ag,_,ak⟩:=Ze1 (h:=h) (ls:=ls) I.seg.1);rw[<-I.seg.2]at ag ak;have al:(s ops.size).hp=(s m).hp:=(by refine T.lights ops.size ag (Xae _) λx h1 h2=> ?_;cases U:has x ls with|true=>rfl|false=>have:=I.hi x h1 h2 U;grind);have an:=T.full ops.size (Xae _) C;exact hQ a w φ S (by rw[al];exact I.inv) I.evo (by rw[<-an];exact I.tm)
 have all: ∀listed,listed.size=ops.size->Region.ready .any ops listed=[]-> ∀i,i<ops.size->listed.getD i false=true:=by intro listed J hr i;induction i using Nat.strongRecOn with|ind i ih=>intro hi;cases hc:listed.getD i false with|true=>rfl|false=>exfalso;have aa:i∈Region.ready .any ops listed:=(by rw[mem_ready];refine⟨?_,ops[i],sM,λe he hb=> ?_⟩;have:i<listed.size:=oM;simpa[this]using hc;have:=(Zk1 hd).1 i ops[i] sM e he hb;exact ih e.on this oM);rw[hr]at aa;simp at aa
 intro fuel;induction fuel with
 |zero=>
  intro listed b m φ S w a J ad I hc;have C: ∀i,i<ops.size->listed.getD i false=true:=by intro i hi;cases U:listed.getD i false with|true=>rfl|false=>have:0<(List.range ops.size).countP (λi=> !listed.getD i false):=List.countP_pos_iff.2 ⟨i,by simpa using hi,by simp[U,Bool.not_false]⟩;omega
  refine⟨?_,done listed b m φ S w a J I C⟩;cases hr:Region.ready .any ops listed with|nil=>rfl|cons x r=>have U:x∈Region.ready .any ops listed:=(by rw[hr];exact Xah);(let⟨h1,o,ho,_⟩:=mem_ready.1 U);have ae:=(Xbj.1 ho).1;have h2:=C x ae;have h3:x<listed.size:=oM;simp[h3]at h1 h2;rw[h1]at h2;cases h2
 |succ fuel ih=>intro listed b m φ S w a J ad I hc;refine⟨λhr=>done listed b m φ S w a J I (all listed J hr),λj hj=> ?_⟩;(let⟨h1,o,ho,C⟩:=mem_ready.1 hj);have ae:=(Xbj.1 ho).1;have ah:j<listed.size:=oM;have ai:listed.getD j false=false:=(by simpa[ah]using h1);have R:(λi=>(listed.setIfInBounds j true).getD i false)=λi=>listed.getD i false||i==j:=(by funext i;by_cases af:i=j;subst af;simp[ah];rw[getD_set_ne false (λe=>af e.symm)];simp[af]);have ab:Zg4 ops λi=>listed.getD i false||i==j:=(by intro x y hy U e he hb;show(listed.getD e.on false||e.on==j)=true;have ao:=U;by_cases aj:x=j;subst aj;rw[ho]at hy;cases hy;simp[C e he hb,Bool.true_or];have:listed.getD x false=true:=(by simpa only[show(x==j)=false from by simpa using aj,Bool.or_false]using ao);have:=ad x y hy this e he hb;simp[show listed.getD e.on false=true from this,Bool.true_or]);refine Zzr hG hd T I ad ho ai ab ?_;intro b' m' φ' S' w' a' I';refine ih _ b' m' φ' S' w' a' (by simpa using J) (by rw[R];exact ab) (by rw[R];exact I') ?_;have:(List.range ops.size).countP (λi=> !(listed.setIfInBounds j true).getD i false)<(List.range ops.size).countP (λi=> !listed.getD i false):=(by refine Zwm (λx U=> ?_) (by simpa using ae) (by simp[ai,Bool.not_false]) ?_;rw[show(listed.setIfInBounds j true).getD x false=(listed.getD x false||x==j)from congrFun R x]at U;(cases aq:listed.getD x false with|true=>simp only[aq,Bool.true_or]at U;cases U|false=>rfl);rw[show(listed.setIfInBounds j true).getD j false=(listed.getD j false||j==j)from congrFun R j];simp);omega
def ZGW (hG:Good P h E) (hd:Zio h ls ops=true) {I J} (U:ZbH P h E N ops ls ops.toList 0 [] I=some J) (hI:Inv φ I.hp w S B) (ht:TRel φ w S N I.tm a)
 (hQ: ∀a' w' φ' S',Inv φ' J.hp w' S' B->Evo I.hp.length B φ S w φ' S' w'->TRel φ' w' S' N J.tm a'->Q .normal a' w'):wpAny P .any ops Q ops.size (Array.replicate ops.size false) a w:=by
 obtain⟨s,rfl,rfl,hs,_,aa⟩:=ZI6 ops.toList 0 [] I J rfl (Xak _) U sM;have hv: ∀i,∃u,∀o,ops[i]? =some o->At P h E N ops ls i o (s i) (s (i+1)) u:=by intro i;cases ho:ops[i]? with|none=>exact⟨.nilp,sM⟩|some o=>simp_all [ZtX,Xak]
 let⟨v,hv⟩:=Classical.axiomOfChoice hv
 have T:Tr P h E N ops ls s v:=⟨λi o ho=>hv i o ho,λj o u ho hb hw hl m hm ab hq=>aa j o u (Xak _) ho hb hw hl m hm ab hq⟩;let⟨_,n2,n3,_⟩:=Ze1 (h:=h) (ls:=ls) (ops:=ops) (Xak _)
 have hF0:=T.frz (Znz h ls ops 0) (Xak _) n2 λx y h1 R hy h3=>n3 x y hy h1 R h3;let⟨S1,h1,R⟩:=hI.frz hF0
 have C:(λi=>(Array.replicate ops.size false).getD i false)=λ_=>false:=by funext i;by_cases hi:i<ops.size<;>simp[hi]
 refine ZBc hG hd T hQ ops.size _ 0 (Znz h ls ops 0) φ S1 w a sM (by rw[C];intro j o _ h;cases h) ?_ (XaK List.countP_le_length sM);rw[C];refine⟨?_,⟨Xak _,rfl⟩,h1, ?_,λ_ _ _ _=>rfl,λi h3=>oM,R⟩;rw[ZlM _ (Xak _) λ_ _ _=>rfl];exact ht.evo R hI (Xae _);intro i h3 _ _ id h4 _;refine⟨?_,(T.frz (Znz h ls ops 0) oM n2 λx y g1 g2 hy g3=>n3 x y hy oM g2 g3).at id⟩;cases hc:φ id with|none=>rfl|some l=>have:=(hI.live id l hc).2.2;have:=T.len hG i (Xak _) oM;omega
end
def Zyv (π:List Nat) (n:Nat):Bool:=
 match π with
 | []=>true
 |i::r=>Nat.beq (i::r).length n&&(List.range n).all λj=>Nat.blt ((i::r).getD j n) n&&Nat.beq (ZeD (i::r) ((i::r).getD j n)) j&&Nat.blt (ZeD (i::r) j) n&&Nat.beq ((i::r).getD (ZeD (i::r) j) n) j
section
variable {P:Program} {Q:Exit->Act->World->Prop} {ops ops':Array Oper} {π:List Nat}
def ZpG (j:Nat) (l:List Nat) (i:Nat):ZeD (j::l) i=bif Nat.beq i j then 0 else ZeD l i+1:=rfl
theorem Zxj: ∀ (l:List Nat) (i:Nat),ZeD l i<=l.length
 | [],_=>Xae _
 |j::l,i=>by rw[ZpG];cases Nat.beq i j with|true=>exact Xak _|false=>exact Nat.succ_le_succ (Zxj l i)
theorem Ze2: ∀ {l:List Nat} {i:Nat},ZeD l i<l.length->l[ZeD l i]? =some i
 | [],_,h=>absurd h (XaS _)
 |j::l,i,h=>by rw[ZpG]at h|-;cases C:Nat.beq i j with|true=>rw[Xay C];rfl|false=>rw[C]at h;simp only[cond_false,Xao]at h|-;exact Ze2 oM
def ZqK (π:List Nat) (ops:Array Oper): ∀ {l:List Nat},(∀i∈l,i<ops.size)-> ∀j:Nat,(ZiQ π ops l)[j]? =(l[j]?).bind λi=>(ops[i]?).map (ZzW π)
 | [],_,j=>by simp[ZiQ]
 |i::l,h,j=>by
  have hi:=h i Xah;have ho:ops[i]? =some ops[i]:=(by simp[hi]);have e:ZiQ π ops (i::l)=match ops[i]? with|some o=>ZzW π o::ZiQ π ops l|none=>ZiQ π ops l:=rfl
  rw[e,ho];cases j with|zero=>simp[ho]|succ j=>simp only[XaV];exact ZqK (l:=l) π ops (λx C=>h x (Xai _ C)) j
theorem Zu5 {π:List Nat}: ∀ {l:List Edge} {e:Edge},e∈ZHE π l<-> ∃d∈l,e=⟨ZeD π d.on,d.ground⟩
 | [],e=>by simp[ZHE]
 |d::l,e=>by have h:ZHE π (d::l)=⟨ZeD π d.on,d.ground⟩::ZHE π l:=rfl;rw[h,XaF,Zu5 (l:=l)];constructor;rintro(rfl|⟨x,h1,j⟩);exact⟨d,Xah,rfl⟩;exact⟨x,Xai _ h1,j⟩;rintro⟨x,h1,j⟩;rcases XaF.1 h1 with rfl|h1;exact .inl j;exact .inr ⟨x,h1,j⟩
structure Reord (ops ops':Array Oper) (π:List Nat):Prop where
 size:ops'.size=ops.size
 len:π.length=ops.size
 at_: ∀i,i<ops.size->ZeD π i<ops.size/\ops'[ZeD π i]? =(ops[i]?).map (ZzW π)
 back: ∀j,j<ops.size-> ∃i,i<ops.size/\ZeD π i=j
def ZBF {i r} (h:Zyv (i::r) ops.size=true):Reord ops (rgo (i::r) ops) (i::r):=by
 let⟨π,I⟩: ∃π,i::r=π:=⟨_,rfl⟩
 have h:(Nat.beq (i::r).length ops.size&&(List.range ops.size).all λj=>Nat.blt ((i::r).getD j ops.size) ops.size&&Nat.beq (ZeD (i::r) ((i::r).getD j ops.size)) j&&Nat.blt (ZeD (i::r) j) ops.size&&Nat.beq ((i::r).getD (ZeD (i::r) j) ops.size) j)=true:=h;have hr:rgo (i::r) ops=(ZiQ (i::r) ops (i::r)).toArray:=rfl;rw[hr];rw[I]at h|-;simp only[Xas,XaH]at h;let⟨J,h2⟩:=h
 have J:=Xay J;have C: ∀j,j<ops.size->((π.getD j ops.size<ops.size/\ZeD π (π.getD j ops.size)=j)/\ZeD π j<ops.size)/\π.getD (ZeD π j) ops.size=j:=λj R=>by simp_all
 have hm: ∀x∈π,x<ops.size:=by grind [List.getElem_of_mem]
 have U:=ZqK π ops hm;have hlen:(ZiQ π ops π).length=ops.size:=by apply Nat.le_antisymm;rcases Xa8 ops.size (ZiQ π ops π).length with h|h;have:=U ops.size;grind;exact h;rcases Xa8 (ZiQ π ops π).length ops.size with h|h;have h3:=U (ZiQ π ops π).length;rw[Xat (Xae _),Xac oM]at h3;have h4:=hm _ (XaI (show(ZiQ π ops π).length<π.length by omega));simp[h4]at h3;exact h
 refine⟨by simpa using hlen,J,λx hx=>⟨(C x hx).1.2, ?_⟩,λj R=>⟨π.getD j ops.size,(C j R).1.1.1,(C j R).1.1.2⟩⟩;have h3:=(C x hx).1.2;have h4:=Ze2 (l:=π) (i:=x) oM;have h5:=U (ZeD π x);rw[h4,Xad]at h5;simpa using h5
def ZFz o a w K:(ZzW π o).wp P a w K Q=o.wp P a w K Q:=rfl
def ZAg o a w:(ZzW π o).asks P a w=o.asks P a w:=rfl
def Zz8 (R:Reord ops ops' π) g:(ops'[ZeD π g]?).bind (·.dst)=(ops[g]?).bind (·.dst):=by
 by_cases j:g<ops.size;rw[(R.at_ g j).2];have ho:ops[g]? =some ops[g]:=sM;rw[ho];rfl;have C:ops[g]? =none:=by simp;omega
 have I:ZeD π g=π.length:=by rcases Xa8 (ZeD π g) π.length with h|h;(let⟨i,hi,e⟩:=R.back (ZeD π g) (by rw[<-R.len];exact h));grind [Ze2];grind [Zxj]
 rw[C,I,R.len,<-R.size];simp
def Zq6 (R:Reord ops ops' π) o tmps:Region.wanted (ZzW π o) (yielded ops' tmps)=Region.wanted o (yielded ops tmps):=by cases C:o.guard with|none=>have:(ZzW π o).guard=none:=(by show(match o.guard with|some (j,b)=>some (ZeD π j,b)|none=>none)=none;rw[C]);simp[Region.wanted,this,C]|some I=>(let⟨j,b⟩:=I);have:(ZzW π o).guard=some (ZeD π j,b):=(by show(match o.guard with|some (j,b)=>some (ZeD π j,b)|none=>none)=_;rw[C]);simp[Region.wanted,this,C,yielded,(Zz8 R j)]
def ZB6 {l:Array Bool} {g} (h:l.size<=g):l.getD g false=false:=by grind
def Lst (n:Nat) (π:List Nat) (l j:Array Bool):Prop:=l.size=n/\j.size=n/\ ∀i,i<n->j.getD (ZeD π i) false=l.getD i false
def Zy2 {n:Nat} {l j} (R:Reord ops ops' π) (hl:Lst ops.size π l j) g:j.getD (ZeD π g) false=l.getD g false:=by
 by_cases C:g<ops.size;exact hl.2.2 g C;have I:l.getD g false=false:=ZB6 (by have:=hl.1;omega);have J: ¬ZeD π g<ops.size:=by intro h;(let⟨i,hi,e⟩:=R.back (ZeD π g) h);have U:=Ze2 (by rw[R.len];exact h);grind [Ze2]
 have h3:=hl.2.1;grind
def Zlt {listed i} (j:listed.size=ops.size):i∈Region.ready .any ops listed<->i<ops.size/\listed.getD i false=false/\ ∃o,ops[i]? =some o/\ ∀e∈o.after,Region.binds .any e=true->listed.getD e.on false=true:=by unfold Region.ready;grind [Array.all_eq_true']
def ZmY {o:Oper} {e:Edge}:e∈(ZzW π o).after<-> ∃d∈o.after,e=⟨ZeD π d.on,d.ground⟩:=by show e∈(ZHE π o.after.toList).toArray<->_;grind [Zu5]
theorem Zr8 (R:Reord ops ops' π) {l C:Array Bool} (hl:Lst ops.size π l C) {i:Nat} (hi:i<ops.size):ZeD π i∈Region.ready .any ops' C<->i∈Region.ready .any ops l:=by
 rw[Zlt (by rw[hl.2.1,R.size]),Zlt hl.1,R.size];have I:=R.at_ i hi;have ho:ops[i]? =some ops[i]:=by simp[hi]
 rw[I.2,ho,(hl.2.2 i hi)];simp only[Xau,I.1,hi,true_and,Xaj,exists_eq_left'];refine and_congr_right λ_=> ?_;constructor;intro h e he j;have:=h ⟨ZeD π e.on,e.ground⟩ (ZmY.2 ⟨e,he,rfl⟩) j;rw[<-Zy2 (n:=0) R hl e.on];exact this;intro h e he j;obtain⟨d,hd,rfl⟩:=ZmY.1 he;rw[Zy2 (n:=0) R hl d.on];exact h d hd j
def ZDr (R:Reord ops ops' π) {i j:Nat} (hi:i<ops.size) (h:ZeD π i=ZeD π j):i=j:=by have C:=Ze2 (by rw[R.len];exact(R.at_ i hi).1);grind [Ze2,Xbp]
def ZFb (R:Reord ops ops' π) {l C:Array Bool} (hl:Lst ops.size π l C) {i:Nat} (hi:i<ops.size):Lst ops.size π (l.setIfInBounds i true) (C.setIfInBounds (ZeD π i) true):=by refine⟨by simpa using hl.1,by simpa using hl.2.1,λj I=> ?_⟩;have J:=hl.1;have U:=hl.2.1;have h3:=hl.2.2 j I;have h5:=(R.at_ j I).1;by_cases e:i=j;simp_all;have e2:ZeD π i≠ZeD π j:=λh=>e (ZDr R hi h);simp_all
def Zxc (R:Reord ops ops' π) {l C:Array Bool} (hl:Lst ops.size π l C):Region.ready .any ops' C=[]<->Region.ready .any ops l=[]:=by
 constructor;intro h;cases I:Region.ready .any ops l with|nil=>rfl|cons i r=>have hm:i∈Region.ready .any ops l:=(by rw[I];exact Xah);have:=(Zr8 R hl ((Zlt hl.1).1 hm).1).2 hm;grind
 intro h;cases I:Region.ready .any ops' C with|nil=>rfl|cons j r=>have hm:j∈Region.ready .any ops' C:=(by rw[I];exact Xah);obtain⟨i,hi,rfl⟩:=R.back j (by rw[<-R.size];exact(((Zlt (by rw[hl.2.1,R.size])).1 hm).1));grind [Zr8]
def Zm1 (R:Reord ops ops' π): ∀ (fuel:Nat) (l I:Array Bool) (a:Act) (w:World),Lst ops.size π l I->wpAny P .any ops' Q fuel I a w->wpAny P .any ops Q fuel l a w
 |0,l,I,a,w,hl,h=>⟨(Zxc R hl).1 h.1,h.2⟩
 |fuel+1,l,I,a,w,hl,h=>by refine⟨λJ=>h.1 ((Zxc R hl).2 J),λi hi=> ?_⟩;have j:=((Zlt hl.1).1 hi).1;have C:=h.2 (ZeD π i) ((Zr8 R hl j).2 hi);have ho:ops[i]? =some ops[i]:=(by simp[j]);unfold wpOp at C|-;rw[(R.at_ i j).2,ho]at C;rw[ho];simp[Xau]at C|-;rw[Zq6 R,ZFz,ZAg]at C;have hd:(ZzW π ops[i]).dst=ops[i].dst:=rfl;have U:=λa w=>Zm1 R fuel (l.setIfInBounds i true) (I.setIfInBounds (ZeD π i) true) a w (ZFb R hl j);split at C;rename_i hw;rw[if_pos hw];exact C.imp (Oper.wp_mono λa w=>U a w) id;grind
def ZyS {a:Act} {w:World} (hp:Zyv π ops.size=true) (h:wpAny P .any (rgo π ops) Q (rgo π ops).size (Array.replicate (rgo π ops).size false) a w):wpAny P .any ops Q ops.size (Array.replicate ops.size false) a w:=by cases π with|nil=>exact h|cons i r=>have R:=ZBF hp;rw[R.size]at h;refine Zm1 R _ _ _ a w ⟨sM,sM,λj C=> ?_⟩ h;have:=(R.at_ j C).1;simp[C,this]
end
variable [Laid]
def Zbs (h:Hints) (fid:Nat):Code->Bool
 | .region id ops draw=>bif draw then Zio h (h.light fid id) (rgo (h.perm fid id) ops)&&Zyv (h.perm fid id) ops.size else(h.light fid id).isEmpty&&(h.perm fid id).isEmpty
 | .seq a b=>Zbs h fid a&&Zbs h fid b
 | .cond _ a b=>Zbs h fid a&&Zbs h fid b
 | .block _ b=>Zbs h fid b
 | .loop b=>Zbs h fid b
 |_=>true
def ZoI (P:Program) (h:Hints) (f:Nat):Bool:=
 match P.funcs[f]? with
 |some fn=>match fn.body with
  |some c=> !(fn.name== "runtime.NumGoroutine")&&Zbs h f c
  |none=>false
 |none=>false
structure Static (P:Program) (h:Hints):Prop where
 mixed:P.follows .mixedOrders=true
 fns: ∀f,h.ok f=true->ZoI P h f=true
 prims: ∀f,(h.prim f).isSome=true->ZEJ P f
section
variable {P:Program} {h:Hints} {E:Ev}
theorem Zd5 N ops: ∀ (l:List Oper) (i:Nat) (s:St),ZbH P h E N ops [] l i [] s=Zgk P h E N ops l s
 | [],_,_=>rfl
 |o::l,i,s=>by show(ZiX P h E N ops [] i o s).bind (λj=>(Zfo P h E (ZcW h o []) j.hp).bind λ_=>ZbH P h E N ops [] l (i+1) (ZcW h o []) j)=(Zf2 P h E N ops o s).bind λs=>Zgk P h E N ops l s;have:ZiX P h E N ops [] i o s=Zf2 P h E N ops o s:=rfl;rw[this];congr 1;funext s;show(Zfo P h E (ZcW h o []) s.hp).bind (λ_=>ZbH P h E N ops [] l (i+1) (ZcW h o []) s)=_;rw[ZxG];exact Zd5 N ops l (i+1) s
def Zea (hG:Good P h E) {N ops ls}: ∀ (l:List Oper) (i:Nat) (acc:List (Nat×Oper×List (Nat×PV)×PV)) (s j:St),ZbH P h E N ops ls l i acc s=some j->s.hp.length<=j.hp.length
 | [],_,_,s,j,h=>by cases h;exact Xae _
 |o::l,i,acc,s,j,h=>by(let⟨s1,I,C⟩:=Zf7 h);have J:s1.hp.length<=j.hp.length:=(by rcases C with⟨_,_,_,C⟩|⟨_,_,C⟩;exact Zea hG l (i+1) _ s1 j C;exact Zea hG l (i+1) _ s1 j C);refine XaK ?_ J;(let⟨v,R⟩:=ZtX I);rcases R.kind with⟨_,_,e⟩|⟨_,_,_,e⟩|⟨_,_,e⟩;grind;grind;exact ZrT hG e
def Hyp (c:Cx) (s:St) (e:Ex) (j:St) (R:(Exit->Act->World->Prop)->Act->World->Prop):Prop:=
 ∀φ S w a B,Inv φ s.hp w S B->TRel φ w S c.N s.tm a->c.base<=s.hp.length-> ∀Q:Exit->Act->World->Prop,
 (∀C w' φ' S',Inv φ' j.hp w' S' B->Evo c.base B φ S w φ' S' w'->TRel φ' w' S' c.N j.tm C->c.base<=j.hp.length->Q (conv e) C w')->R Q a w
def Zns (P:Program) (h:Hints) (E:Ev):Prop:= ∀ (c:Cx) (code:Code) (s:St) (e:Ex) (j:St),E.ex c code s=some (e,j)->Zbs h c.fid code=true->
 Hyp c s e j (λQ a w=>code.wp P Q a w)/\ ∀b,code= .loop b-> ∃r,Hyp c s e j λQ a w=>Code.rounds P b Q r a w
def Zpv (hS:Static P h) (hG:Good P h E) {c:Cx} {id ops draw s I} (aa:ZvB P h E c.N (h.light c.fid id) (rgo (h.perm c.fid id) ops) s=some I)
 (C:Zbs h c.fid (.region id ops draw)=true) {φ S w a B} (hI:Inv φ s.hp w S B) (ht:TRel φ w S c.N s.tm a) (U:c.base<=s.hp.length) {Q}
 (hQ: ∀R w' φ' S',Inv φ' I.hp w' S' B->Evo c.base B φ S w φ' S' w'->TRel φ' w' S' c.N I.tm R->c.base<=I.hp.length->Q .normal R w'):(Code.region id ops draw).wp P Q a w:=by
 have j:ZbH P h E c.N (rgo (h.perm c.fid id) ops) (h.light c.fid id) (rgo (h.perm c.fid id) ops).toList 0 [] s=some I:=by grind [ZvB,Zd5]
 have hlen:=Zea hG _ _ _ _ _ j;cases draw with|true=>simp[Zbs,cond_true]at C;apply wp_region_any hS.mixed;refine ZyS C.2 ?_;have J:Below w.heap.size w {w with drawn:=w.drawn+1}:=⟨rfl,rfl,rfl,Xae _,λ_ _=>rfl⟩;(let⟨h1,h2⟩:=hI.foreign J);refine ZGW hG C.1 j h1 (ht.evo h2 hI (Xae _)) ?_;intro R w' φ' S' h3 h4 h5;exact hQ R w' φ' S' h3 ((h2.mono U).trans (h4.mono U)) h5 oM|false=>simp[Zbs,cond_false]at C;rw[C.1,C.2,Zd5]at j;apply wp_region;exact Znd hG c.base ops.toList 0 s I φ S a w rfl j hI ht U hQ
def ZFT (hS:Static P h) (hG:Good P h E) (hX:Zns P h E):Zns P h (step P h E):=by
 intro c code s e s' C J;cases code with
 |loop b=>
  simp[step]at C;have aa:Zbs h c.fid b=true:=(by simpa only[Zbs]using J);(let⟨s0,h0,C⟩:=Zam C);(let⟨⟨e1,s1⟩,h1,h2⟩:=Zam C);have main: ∃r,Hyp c s e s' λQ a w=>Code.rounds P b Q r a w:=by cases e1 with|normal=>simp at h2;(let⟨r,hr⟩:=(hX c (.loop b) s1 e s' h2 J).2 b rfl);refine⟨r+1, ?_⟩;intro φ S w a B hI U hb Q R;(let⟨φ0,ab,ad,ae,af⟩:=Ze4 h0 hI U hb);refine(hX c b s0 _ s1 h1 aa).1 φ0 S w a B ab ad ae _ ?_;intro a1 w1 I S1 h3 h4 h5 h6;simp[Exit.then];refine hr I S1 w1 a1 B h3 h5 h6 Q ?_;intro a2 w2 ag S2 h7 h8 h9 ah;exact R a2 w2 ag S2 h7 ((af.trans h4).trans h8) h9 ah|exit id=>simp[Prod.mk.injEq]at h2;obtain⟨rfl,rfl⟩:=h2;refine⟨1, ?_⟩;intro φ S w a B hI U hb Q R;(let⟨φ0,ab,ad,ae,af⟩:=Ze4 h0 hI U hb);exact(hX c b s0 _ s1 h1 aa).1 φ0 S w a B ab ad ae _ λa1 w1 I S1 h3 h4 h5 h6=>R a1 w1 I S1 h3 (af.trans h4) h5 h6|ret=>simp[Prod.mk.injEq]at h2;obtain⟨rfl,rfl⟩:=h2;refine⟨1, ?_⟩;intro φ S w a B hI U hb Q R;(let⟨φ0,ab,ad,ae,af⟩:=Ze4 h0 hI U hb);exact(hX c b s0 _ s1 h1 aa).1 φ0 S w a B ab ad ae _ λa1 w1 I S1 h3 h4 h5 h6=>R a1 w1 I S1 h3 (af.trans h4) h5 h6
  (let⟨r,hr⟩:=main);exact⟨λφ S w a B hI U hb Q R=>wp_loop_rounds r (hr φ S w a B hI U hb Q R),λb' ai=>by cases ai;exact⟨r,hr⟩⟩
 |skip=>refine⟨?_,sM⟩;intro φ S w a B hI U hb Q R;simp[step,Xaj,Prod.mk.injEq]at C;obtain⟨rfl,rfl⟩:=C;exact wp_skip (R a w φ S hI (Evo.refl _ _ _ _ _) U hb)
 |label l=>refine⟨?_,sM⟩;intro φ S w a B hI U hb Q R;simp[step,Xaj,Prod.mk.injEq]at C;obtain⟨rfl,rfl⟩:=C;exact wp_label (R a w φ S hI (Evo.refl _ _ _ _ _) U hb)
 |exit id=>refine⟨?_,sM⟩;intro φ S w a B hI U hb Q R;simp[step,Xaj,Prod.mk.injEq]at C;obtain⟨rfl,rfl⟩:=C;exact wp_exit (R a w φ S hI (Evo.refl _ _ _ _ _) U hb)
 |ret=>refine⟨?_,sM⟩;intro φ S w a B hI U hb Q R;simp[step,Xaj,Prod.mk.injEq]at C;obtain⟨rfl,rfl⟩:=C;exact wp_ret (R a w φ S hI (Evo.refl _ _ _ _ _) U hb)
 |region id ops draw=>refine⟨?_,sM⟩;intro φ S w a B hI U hb Q R;simp[step]at C;cases hr:ZvB P h E c.N (h.light c.fid id) (rgo (h.perm c.fid id) ops) s with|none=>rw[hr]at C;simp at C|some s1=>rw[hr]at C;simp[Xau,Xaj,Prod.mk.injEq]at C;obtain⟨rfl,rfl⟩:=C;exact Zpv hS hG hr J hI U hb R
 |seq x y=>refine⟨?_,sM⟩;intro φ S w a B hI U hb Q R;simp[step]at C;simp[Zbs,Xas]at J;(let⟨⟨e1,s1⟩,h1,h2⟩:=Zam C);refine wp_seq ?_;cases e1 with|normal=>simp[]at h2;refine(hX c x s _ s1 h1 J.1).1 φ S w a B hI U hb _ ?_;intro a1 w1 I S1 h3 h4 h5 h6;simp[conv,Exit.then];refine(hX c y s1 e s' h2 J.2).1 I S1 w1 a1 B h3 h5 h6 Q ?_;intro a2 w2 ag S2 h7 h8 h9 ah;exact R a2 w2 ag S2 h7 (h4.trans h8) h9 ah|exit id=>simp[Xaj,Prod.mk.injEq]at h2;obtain⟨rfl,rfl⟩:=h2;exact(hX c x s _ s1 h1 J.1).1 φ S w a B hI U hb _ λa1 w1 I S1 h3 h4 h5 h6=>R a1 w1 I S1 h3 h4 h5 h6|ret=>simp[Xaj,Prod.mk.injEq]at h2;obtain⟨rfl,rfl⟩:=h2;exact(hX c x s _ s1 h1 J.1).1 φ S w a B hI U hb _ λa1 w1 I S1 h3 h4 h5 h6=>R a1 w1 I S1 h3 h4 h5 h6
 |cond x y z=>refine⟨?_,sM⟩;intro φ S w a B hI U hb Q R;simp[step]at C;simp[Zbs,Xas]at J;(let⟨v,h1,h2⟩:=Zam C);(cases v<;>simp[]at h2<;>try (cases h2;done));rename_i t;have hv:=ZaD U h1;simp[VRel]at hv;refine wp_cond hv ((hX c _ s e s' h2 ?_).1 φ S w a B hI U hb Q R);cases t;exact J.2;exact J.1
 |block id b=>refine⟨?_,sM⟩;intro φ S w a B hI U hb Q R;simp[step]at C;simp[Zbs]at J;(let⟨⟨e1,s1⟩,h1,h2⟩:=Zam C);refine wp_block ((hX c b s _ s1 h1 J).1 φ S w a B hI U hb _ ?_);intro a1 w1 I S1 h3 h4 h5 h6;have out:(ZfN (h.keepB c.fid id) c s1).map (λaj=>(Ex.normal,aj))=some (e,s')->Q .normal a1 w1:=(by intro hx;cases hm:ZfN (h.keepB c.fid id) c s1 with|none=>simp[hm]at hx|some s2=>simp[hm,Xau,Xaj,Prod.mk.injEq]at hx;obtain⟨rfl,rfl⟩:=hx;(let⟨ag,g1,g2,g3,g4⟩:=Ze4 hm h3 h5 h6);exact R a1 w1 ag S1 g1 (h4.trans g4) g2 g3);cases e1 with|normal=>exact out h2|ret=>simp[Xaj,Prod.mk.injEq]at h2;obtain⟨rfl,rfl⟩:=h2;exact R a1 w1 I S1 h3 h4 h5 h6|exit j=>simp[conv,Exit.inBlock];by_cases hj:j=id;simp only[if_pos hj]at h2|-;exact out h2;simp[if_neg hj,Xaj,Prod.mk.injEq]at h2|-;obtain⟨rfl,rfl⟩:=h2;exact R a1 w1 I S1 h3 h4 h5 h6
 |_=>simp[step]at C
def ZrJ {l vs φ w S} (j:VL φ w S l vs.toList):VRel φ w S (ZbW l) (if h:vs.size=1 then vs[0]else .tuple vs):=by have hlen:=VL.length j;match l,j with| [],j=>grind [ZbW,VRel]| [p],j=>obtain⟨v,r,C,I,rfl⟩:=j;have:vs= #[v]:=(by apply Array.ext';simpa using C);grind [ZbW]|p::q::r,j=>grind [ZbW,VRel]
def ZBs (tmps:Array Value):ResultVar->Sem Value
 | .tmp t=>pure (tmps.getD t undef)
 | .cell a t=>do loadVar t (<-asAddr (tmps.getD a undef))
def ZwF fn tmps:results fn tmps=(do let vs <-fn.results.mapM (ZBs tmps);pure (if h:vs.size=1 then vs[0]else .tuple vs)):=rfl
def ZfA {fn tm H vs φ S w B N a} (hr:Za3 (Zj2 P tm H) fn.results.toList=some vs) (hI:Inv φ H w S B) (U:TRel φ w S N tm a):
 ∃u,(results fn a.tmps).run P w= .ok u w/\VRel φ w S (ZbW vs) u:=by
 have gen: ∀ (l:List ResultVar) (vs:List PV),Za3 (Zj2 P tm H) l=some vs->
  ∃us,(l.mapM (ZBs a.tmps)).run P w= .ok us w/\VL φ w S vs us:=by
  intro l;induction l with
  |nil=>intro vs h;simp[ZcA]at h;subst h;exact⟨[],sM,by simp[VL]⟩
  |cons x l ih=>
   intro vs h;obtain⟨p,ps,j,I,rfl⟩:=ZaM h;(let⟨us,h3,h4⟩:=ih ps I);cases x with
   |tmp t=>have:=(U.2.2 t p j).2;refine⟨a.tmps.getD t undef::us, ?_,_,us,rfl,this,h4⟩;simp_all [ZBs]
   |cell x t=>
    simp[Zj2]at j;(let⟨q,h5,J⟩:=Zam j);have hq:=(U.2.2 x q h5).2;(let⟨u,h7,h8⟩:=ZjG hI J hq);refine⟨u::us, ?_,u,us,rfl,h8,h4⟩;have: ∃R,a.tmps.getD x undef= .pointer (some R):=by(cases q<;>simp[Zcf]at J<;>try (cases J;done));grind [VRel];grind [VRel,IRel]
    (let⟨R,C⟩:=this);rw[C]at h7;have h9:(loadVar t R).run P w= .ok u w:=(by simpa[Instr.loadAt,Instr.sureAddr]using h7);rw[List.mapM_cons];simp[ZBs,C,asAddr,h9,h3]
 let⟨us,j,I⟩:=gen _ _ hr
 refine⟨if h:us.toArray.size=1 then us.toArray[0]else .tuple us.toArray, ?_,ZrJ (by simpa using I)⟩;rw[ZwF,Array.mapM_eq_mapM_toList];simp[Sem.run_pure,j]
def Zrv {f args H H' v} (j:(step P h E).rn f args H=some (v,H')):
 ∃fn code e s vs,h.ok f=true/\P.funcs[f]? =some fn/\fn.body=some code/\args.length<=fn.ntmps/\E.ex ⟨f,H.length,fn.ntmps⟩ code ⟨enterT 0 args,H⟩=some (e,s)/\(e= .normal\/e= .ret)/\
  Za3 (Zj2 P s.tm s.hp) fn.results.toList=some vs/\v=ZbW vs/\H'=s.hp:=by
 let⟨J,j⟩:=Zau j
 split at j;rename_i fn hf;split at j;rename_i code R;let⟨hn,j⟩:=Zau j
 let⟨⟨e,s⟩,U,j⟩:=Zam j
 have I: ∀ {x:Option (List PV)},x.map (λvs=>(ZbW vs,s.hp))=some (v,H')-> ∃vs,x=some vs/\v=ZbW vs/\H'=s.hp:=by intro x C;cases x with|none=>simp at C|some vs=>simp at C;exact⟨vs,rfl,C.1.symm,C.2.symm⟩
 cases e with|exit id=>cases j|normal=>grind|ret=>grind
 cases j;cases j
def ZGh (E:Ev):Prop:= ∀ (c:Cx) (code:Code) (s:St) (e:Ex) (j:St),E.ex c code s=some (e,j)->c.base<=s.hp.length->c.base<=j.hp.length
def Zqb {k c s st} (j:ZfN k c s=some st) (C:c.base<=s.hp.length):c.base<=st.hp.length:=by unfold ZfN at j;grind
def Zwx (hG:Good P h E) (U:ZGh E):ZGh (step P h E):=by intro c code s e s' C R;cases code with|skip=>simp[step,Xaj]at C;rw[<-C.2];exact R|label l=>simp[step,Xaj]at C;rw[<-C.2];exact R|exit id=>simp[step,Xaj]at C;rw[<-C.2];exact R|ret=>simp[step,Xaj,Prod.mk.injEq]at C;rw[<-C.2];exact R|region id ops draw=>(simp only[step]at C;cases hr:ZvB P h E c.N (h.light c.fid id) (rgo (h.perm c.fid id) ops) s with|none=>rw[hr]at C;simp at C|some s1=>rw[hr]at C;simp[Xau,Xaj,Prod.mk.injEq]at C;rw[<-C.2];have aa:ZbH P h E c.N (rgo (h.perm c.fid id) ops) (h.light c.fid id) (rgo (h.perm c.fid id) ops).toList 0 [] s=some s1:=(by unfold ZvB at hr;split at hr;rename_i hl;rw[hl,Zd5];exact hr;exact hr);exact XaK R (Zea hG _ _ _ _ _ aa))|seq x y=>(simp[step]at C;(let⟨⟨e1,s1⟩,h1,I⟩:=Zam C);have J:=U _ _ _ _ _ h1 R;cases e1 with|normal=>exact U _ _ _ _ _ I J|exit id=>simp[Xaj,Prod.mk.injEq]at I;rw[<-I.2];exact J|ret=>simp[Xaj,Prod.mk.injEq]at I;rw[<-I.2];exact J)|cond x y z=>simp[step]at C;(let⟨v,h1,I⟩:=Zam C);(cases v<;>simp[]at I<;>try (cases I;done));exact U _ _ _ _ _ I R|block id b=>(simp[step]at C;(let⟨⟨e1,s1⟩,h1,I⟩:=Zam C);have J:=U _ _ _ _ _ h1 R;have out:(ZfN (h.keepB c.fid id) c s1).map (λab=>(Ex.normal,ab))=some (e,s')->c.base<=s'.hp.length:=(by intro hx;cases hm:ZfN (h.keepB c.fid id) c s1 with|none=>simp[hm]at hx|some s2=>simp[hm,Xau,Xaj,Prod.mk.injEq]at hx;obtain⟨rfl,rfl⟩:=hx;exact Zqb hm J);cases e1 with|normal=>exact out I|ret=>simp[Xaj,Prod.mk.injEq]at I;rw[<-I.2];exact J|exit j=>simp[]at I;split at I;exact out I;simp[Xaj,Prod.mk.injEq]at I;rw[<-I.2];exact J)|loop b=>(simp[step]at C;(let⟨s0,h0,C⟩:=Zam C);(let⟨⟨e1,s1⟩,h1,I⟩:=Zam C);have ad:=Zqb h0 R;have J:=U _ _ _ _ _ h1 ad;cases e1 with|normal=>exact U _ _ _ _ _ I J|exit id=>simp[Xaj,Prod.mk.injEq]at I;rw[<-I.2];exact J|ret=>simp[Xaj,Prod.mk.injEq]at I;rw[<-I.2];exact J)|_=>simp[step]at C
def ZCl {f} (hf:ZoI P h f=true):ZEJ P f:=by unfold ZoI at hf;split at hf;rename_i fn j;split at hf;rename_i c C;simp only[Xas,XbM]at hf;exact⟨fn,j,by simp[C],hf.1⟩;cases hf;cases hf
def Zv5 {f fn c} (hf:ZoI P h f=true) (j:P.funcs[f]? =some fn) (C:fn.body=some c):Zbs h f c=true:=by simp_all [ZoI,Xas]
def ZFQ (hS:Static P h) (hX:Zns P h E):Zr9 P (step P h E):=by
 intro f args H v H' hr φ S w B vals hI U;obtain⟨fn,code,e,s,vs,R,hf,hb,hn,h1,h2,h3,rfl,rfl⟩:=Zrv hr;apply calls_of_wp hf hb;have aa:=VL.length U;refine(hX _ code _ e s h1 (Zv5 (hS.fns f R) hf hb)).1 φ S w _ B hI ?_ (Xae _) _ ?_;refine⟨by simp;omega,rfl, ?_⟩;intro i p hp;let⟨_,C⟩:=ZeO args 0 i p hp
 simp at C;let⟨u,I,J⟩:=VL.get U C
 have hi:=(Xaf.1 I).1;refine⟨by show i<fn.ntmps;omega, ?_⟩;have:(vals.toArray++Array.replicate (fn.ntmps-vals.toArray.size) undef).getD i undef=u:=by rw[Array.getD_eq_getD_getElem?,Array.getElem?_append_left (by simpa using hi)];simp[I]
 rw[this];exact J;intro a' w' φ' S' C I J _;let⟨u,h8,h9⟩:=ZfA h3 C J
 have j:a'.defers=[]/\ ∃v,(results fn a'.tmps).run P w'= .ok v w'/\ZG3 s.hp H.length B φ S w (ZbW vs) (.returned v) w':=
   ⟨J.2.1,u,h8,u,φ',S',rfl,C,I,h9⟩
 rcases h2 with rfl|rfl;exact j;exact j
def ZcF (I:Static P h) (R:Zbk P h): ∀n,Good P h (Zc2 P h n)/\Zns P h (Zc2 P h n)/\ZGh (Zc2 P h n)
 |0=>⟨⟨λf args H v H' j=>(by cases j),R,λf args H v H' j=>(by cases j),λf hf=>hf.elim (λ⟨_,_,_,j⟩=>(by cases j)) (I.prims f)⟩,
   λc code s e s' C=>(by cases C),λc code s e s' C=>by cases C⟩
 |n+1=>by(let⟨U,h2,h3⟩:=ZcF I R n);refine⟨⟨ZFQ I h2,R, ?_, ?_⟩,ZFT I U h2,Zwx U h3⟩;intro f args H v H' j;obtain⟨fn,code,e,s,vs,J,hf,hb,hn,h4,h5,h6,rfl,rfl⟩:=Zrv j;exact h3 _ _ _ _ _ h4 (Xae _);rintro f (⟨args,H,⟨v,H'⟩,j⟩|hp);(let⟨fn,code,e,s,vs,J,_⟩:=Zrv j);exact ZCl (I.fns f J);exact I.prims f hp
end
variable [Laid]
inductive Ty where
 |bool
 |int (k:IntKind)
 |str
 |slice (e:Ty) (bytes:Nat)
 |agg (ps:List Ty)
 deriving Inhabited
mutual
def ZcJ:Ty->List PV->Prop
 | .bool,cs=> ∃b,cs=[.bool b]
 | .int k,cs=> ∃n,cs=[.int k n]/\(Lit.int k n).wf=true
 | .str,cs=> ∃s,cs=[.str s]/\s.size<=reachBytes
 | .slice e bytes,cs=>cs=[.nils]\/ ∃es,cs=[.lst es]/\es.length<=maxLen/\es.length*bytes<=reachBytes/\ ∀c∈es,ZcJ e c
 | .agg ps,cs=>HasTys ps cs
def HasTys:List Ty->List PV->Prop
 | [],cs=>cs=[]
 |p::ps,cs=> ∃a b,cs=a++b/\ZcJ p a/\HasTys ps b
end
def ZhT (P:Program) (j:Nat) (rec:TypeId->Option Ty):List (Nat×TypeId)->Nat->Option (List Ty)
 | [],off=>if off=j then some []else none
 |(o,t)::r,off=>if o=off then(rec t).bind λx=>(ZhT P j rec r (off+P.cellsOf t)).map (x:: ·)else none
def Znp (P:Program) (t:TypeId):Option (List (Nat×TypeId)):=
 match P.underlying t with
 |some (.struct j)=>some (j.toList.map λf=>(f.offset,f.type))
 |some (.array n e)=>some ((List.range n).map λi=>(i*P.cellsOf e,e))
 |_=>none
def Zqr (P:Program):Nat->TypeId->Option Ty
 |0,_=>none
 |n+1,t=>match P.underlying t with
  |some .bool=>some .bool
  |some (.int k)=>some (.int k)
  |some .string=>some .str
  |some (.slice e)=>(Zqr P n e).bind λx=>if 0<P.cellsOf e then some (.slice x (P.bytesOf e))else none
  |_=>(Znp P t).bind λj=>(ZhT P (P.cellsOf t) (Zqr P n) j 0).map .agg
section
variable {H:Type} {enc:TypeId × Value->H} {P:Program} {w:World} {S:Nat->Prop}
def ZkT: ∀ {l m:List PV} {vs us:List Value},LRel w S l vs->LRel w S m us->LRel w S (l++m) (vs++us)
 | [],_,_,_,h,j=>by simp only[LRel]at h;subst h;simpa using j
 |p::ps,_,_,_,h,j=>by simp only[LRel]at h;obtain⟨v,r,rfl,C,I⟩:=h;show LRel w S (p::(ps++_)) (v::(r++_));simp only[LRel];exact⟨v,_,rfl,C,ZkT I j⟩
def Zht: ∀ {l:List PV} {vs:List Value},LRel w S l vs->l.length=vs.length
 | [],_,h=>by simp only[LRel]at h;subst h;rfl
 |p::ps,_,h=>by simp only[LRel]at h;obtain⟨v,r,rfl,_,j⟩:=h;simp[Zht j]
def Zu1: ∀ {l:List PV} {vs:List Value} {b o:Nat},LRel w S l vs->(∀c∈l,ZcZ c=true)->(∀ (j:Nat) (v:Value),vs[j]? =some v->w.cell? ⟨b,o+j,none⟩=some v)->CsRel w S l b o
 | [],_,_,_,_,_,_=>by simp only[CsRel]
 |p::ps,vs,b,o,h,C,I=>by simp only[LRel]at h;obtain⟨v,r,rfl,J,R⟩:=h;simp only[CsRel];exact⟨⟨C p Xah,v,by simpa using I 0 v rfl,J⟩,Zu1 R (λc hm=>C c (Xai _ hm)) λj u U=>by rw[<-I (j+1) u (by simpa using U)];congr 2;omega⟩
def Zuc {z:Nat}: ∀ {l:List (List PV)} {b o:Nat},(∀c∈l,c.length=z)->(∀ (i:Nat) (c:List PV),l[i]? =some c->CsRel w S c b (o+i*z))->EsRel w S l b o
 | [],_,_,_,_=>by simp[EsRel]
 |c::cs,b,o,C,h=>by refine⟨by simpa using h 0 c rfl,Zuc (λx j=>C x (Xai _ j)) λi x j=> ?_⟩;have I:=h (i+1) x (by simpa using j);grind
def Lim (P:Program) (t:TypeId) (d:DataW H):Prop:= ∀n∈d.weights P t,n<=reachBytes
def Zhl: ∀ {ds:List (DataW H)} {e:TypeId} {d:DataW H},d∈ds-> ∀n∈d.weights P e,n∈DataW.weightsAll P e ds
 |x::ds,e,d,hd,n,hn=>by simp only[DataW.weightsAll,XaO];rcases XaF.1 hd with rfl|hd;exact .inl hn;exact .inr (Zhl hd n hn)
def Got (w:World) (ty:Ty) (cs:List Value):Prop:= ∃j,ZcJ ty j/\LRel w (λb=>b<w.heap.size) j cs/\ ∀q∈j,ZcZ q=true
def Zow {α:Type} rec (f:TypeId->List Value->Option (DataW H×List MemPlace)) (C: ∀t ty,rec t=some ty-> ∀cs d ps,f t cs=some (d,ps)->(∀x∈ps,x.block<w.heap.size)->Lim P t d->Got w ty cs) (cs:List Value) g:
 ∀ (l:List α) (off:Nat) (tys:List Ty) (xs:List (DataW H×List MemPlace)),ZhT P cs.length rec (l.map g) off=some tys->l.mapM (λx=>f (g x).2 ((cs.drop (g x).1).take (P.cellsOf (g x).2)))=some xs->
   (∀x∈xs,∀p∈x.2,p.block<w.heap.size)->(∀ (i:Nat) (a:α) (x:DataW H×List MemPlace),l[i]? =some a->xs[i]? =some x->Lim P (g a).2 x.1)->
   ∃U,HasTys tys U/\LRel w (λb=>b<w.heap.size) U (cs.drop off)/\ ∀q∈U,ZcZ q=true
 | [],off,tys,xs,j,hm,_,_=>by simp only[XbX,ZhT]at j;(let⟨ho,j⟩:=Zau j);simp_all [HasTys,LRel]
 |a::l,off,tys,xs,j,hm,hp,hl=>by simp at j;rw[show g a=((g a).1,(g a).2)from rfl]at j;simp only[ZhT]at j;(let⟨ho,j⟩:=Zau j);(let⟨ty,h1,j⟩:=Zam j);cases hr:ZhT P cs.length rec (l.map g) (off+P.cellsOf (g a).2)with|none=>simp[hr]at j|some R=>simp[hr,Xau]at j;subst j;rw[List.mapM_cons]at hm;cases I:f (g a).2 ((cs.drop (g a).1).take (P.cellsOf (g a).2))with|none=>rw[I]at hm;simp at hm|some x=>rw[I]at hm;cases J:l.mapM (λx=>f (g x).2 ((cs.drop (g x).1).take (P.cellsOf (g x).2)))with|none=>rw[J]at hm;simp at hm|some aa=>rw[J]at hm;simp at hm;subst hm;(let⟨q1,h2,h3,h4⟩:=C _ _ h1 _ x.1 x.2 I (hp x Xah) (hl 0 a x rfl rfl));(let⟨q2,h5,h6,h7⟩:=Zow rec f C cs g l _ R aa hr J (λy hy=>hp y (Xai _ hy)) (λi b y hb hy=>hl (i+1) b y (by simpa using hb) (by simpa using hy)));refine⟨q1++q2,⟨q1,q2,rfl,h2,h5⟩, ?_, ?_⟩;rw[ho]at h3;have:=ZkT h3 h6;rw[show cs.drop (off+P.cellsOf (g a).2)=(cs.drop off).drop (P.cellsOf (g a).2)from by rw[Xbl],Xbc]at this;exact this;intro q hq;rcases XaO.1 hq with hq|hq;exact h4 q hq;exact h7 q hq
def ZtB: ∀ (n:Nat) (t:TypeId) (ty:Ty),Zqr P n t=some ty-> ∀ (fuel:Nat) (cs:List Value) (d:DataW H) (ps:List MemPlace),DataW.trod enc P w 0 (λ_=>true) true fuel t cs=some (d,ps)->
 (∀x∈ps,x.block<w.heap.size)->Lim P t d->Got w ty cs
 |0,t,ty,h=>by simp[Zqr]at h
 |n+1,t,ty,h=>by
  have ih:=ZtB n;intro fuel cs d ps C ab U;cases fuel with
  |zero=>simp[DataW.trod]at C
  |succ fuel=>
   have ah: ∀J,Znp P t=some J->(Znp P t).bind (λJ=>(ZhT P (P.cellsOf t) (Zqr P n) J 0).map Ty.agg)=some ty->Got w ty cs:=by
    intro J I hb;rw[I,Xad]at hb;cases ae:ZhT P (P.cellsOf t) (Zqr P n) J 0 with
    |none=>simp[ae]at hb
    |some tys=>
     simp only[ae,Xau,Xaj]at hb;subst hb;unfold Znp at I;split at I;rename_i fs hu;cases I;simp only[DataW.trod,hu]at C;(let⟨hlen,C⟩:=Zau C);cases hm:fs.toList.mapM (λf=>DataW.trod enc P w 0 (λ_=>true) true fuel f.type ((cs.drop f.offset).take (P.cellsOf f.type)))with
      |none=>rw[hm]at C;simp at C
      |some xs=>
       rw[hm]at C;simp only[Xau,Xaj,Prod.mk.injEq]at C;obtain⟨rfl,rfl⟩:=C;have au:=mapM_some_length hm;let⟨qs,h1,h2,R⟩:=Zow (w:=w) (P:=P) (Zqr P n) (λt cs=>DataW.trod enc P w 0 (λ_=>true) true fuel t cs) (λt ty h1 cs d ps h2 R h4=>ih t ty h1 fuel cs d ps h2 R h4) cs (λf:Field=>(f.offset,f.type)) fs.toList 0 tys xs (by rw[hlen];exact ae) hm
        (λx hx p hp=>ab p (Xbg.2 ⟨x,hx,hp⟩))
        (λi a x ha hx m hm=>U m (by
         simp only[DataW.weights,hu];exact DataW.weights_mem_each (j:=i) (by simp[ha]) (by simp[hx]) m hm))
       exact⟨qs,by simp only[ZcJ];exact h1,by simpa using h2,R⟩
     rename_i k e hu;cases I;simp only[DataW.trod,hu]at C;(let⟨hlen,C⟩:=Zau C);cases hm:(List.range k).mapM (λi=>DataW.trod enc P w 0 (λ_=>true) true fuel e ((cs.drop (i*P.cellsOf e)).take (P.cellsOf e)))with
      |none=>rw[hm]at C;simp at C
      |some xs=>
       rw[hm]at C;simp only[Xau,Xaj,Prod.mk.injEq]at C;obtain⟨rfl,rfl⟩:=C;let⟨qs,h1,h2,R⟩:=Zow (w:=w) (P:=P) (Zqr P n) (λt cs=>DataW.trod enc P w 0 (λ_=>true) true fuel t cs) (λt ty h1 cs d ps h2 R h4=>ih t ty h1 fuel cs d ps h2 R h4) cs (λi:Nat=>(i*P.cellsOf e,e)) (List.range k) 0 tys xs (by rw[hlen];exact ae) hm
        (λx hx p hp=>ab p (Xbg.2 ⟨x,hx,hp⟩))
        (λi a x _ hx m hm=>U m (by
         simp only[DataW.weights,hu];exact Zhl (List.mem_map_of_mem (XaC hx)) m hm))
       exact⟨qs,by simp only[ZcJ];exact h1,by simpa using h2,R⟩
     cases I
   have one: ∀ {v:Value} {q:PV},ZcJ ty [q]->IRel w (λb=>b<w.heap.size) q v->ZcZ q=true->cs=[v]->Got w ty cs:=by intro v q h1 h2 R h4;subst h4;exact⟨[q],h1,by simp only[LRel];exact⟨v,[],rfl,h2,rfl⟩,by simpa using R⟩
   unfold Zqr at h;split at h;·rename_i hu;cases h;match cs,C with| [.bool b],C=>exact one (v:= .bool b) (q:= .bool b) (by simp[ZcJ]) (by simp only[IRel]) rfl rfl| [],C=>simp[DataW.trod,hu]at C|v::u::r,C=>cases v<;>simp[DataW.trod,hu]at C| [.int _ _],C| [.float _ _],C| [.string _],C| [.pointer _],C| [.slice _ _ _],C| [.agg _],C| [.tuple _],C| [.nilFunc],C| [.map _],C| [.func _ _ _],C=>simp[DataW.trod,hu]at C| [v],C=>cases v<;>first|(simp[DataW.trod,hu]at C;done)|(rename_i b;exact one (v:= .bool b) (q:= .bool b) (by simp[ZcJ]) (by simp only[IRel]) rfl rfl)
   ·rename_i k hu;cases h;match cs,C with| [],C=>simp[DataW.trod,hu]at C|v::u::r,C=>cases v<;>simp[DataW.trod,hu]at C| [v],C=>(cases v<;>try (simp[DataW.trod,hu]at C;done));rename_i k' m;simp only[DataW.trod,hu]at C;obtain⟨⟨rfl,hw⟩,C⟩:=Zau C;exact one (v:= .int k' m) (q:= .int k' m) (by simp only[ZcJ];exact⟨m,rfl,hw⟩) (by simp only[IRel]) rfl rfl
   ·rename_i hu;cases h;match cs,C with| [],C=>simp[DataW.trod,hu]at C|v::u::r,C=>cases v<;>simp[DataW.trod,hu]at C| [v],C=>(cases v<;>try (simp[DataW.trod,hu]at C;done));rename_i s;simp only[DataW.trod,hu]at C;(let⟨_,C⟩:=Zau C);cases C;have:=U s.data.toList.length (by simp[DataW.weights]);exact one (v:= .string s) (q:= .str s) (by simp only[ZcJ];exact⟨s,rfl,by rw[Array.length_toList]at this;exact this⟩) (by simp only[IRel]) rfl rfl
   ·rename_i e hu;(let⟨et,h1,h⟩:=Zam h);(let⟨hz,h⟩:=Zau h);cases h;match cs,C with
    | [],C=>simp[DataW.trod,hu]at C
    |v::u::r,C=>cases v<;>simp[DataW.trod,hu]at C
    | [v],C=>
     (cases v<;>try (simp[DataW.trod,hu]at C;done));rename_i ao len cap;cases ao with
     |none=>
      cases len<;>cases cap<;>first
       |(simp[DataW.trod,hu]at C;done)
       |exact one (v:= .slice none 0 0) (q:= .nils) (by simp[ZcJ]) (by simp only[IRel]) rfl rfl
     |some ad=>
      simp only[DataW.trod,hu]at C;(let⟨⟨_,aj,av⟩,C⟩:=Zau C);(let⟨elems,hm,C⟩:=Zam C);have fin: ∀ {X:Option (List (DataW H×List MemPlace))},(X.map λrest=>(DataW.slice (elems.map λx=>x.1) (rest.map λx=>x.1),MemPlace.row ad ((elems.length+rest.length)*P.cellsOf e)++(elems++rest).flatMap λx=>x.2))=some (d,ps)->
       ∃rest:List (DataW H×List MemPlace),DataW.slice (elems.map λx=>x.1) (rest.map λx=>x.1)=d/\MemPlace.row ad ((elems.length+rest.length)*P.cellsOf e)++(elems++rest).flatMap (λx=>x.2)=ps:=by
       intro X hX;cases X with|none=>cases hX|some rest=>simp only[Xau,Xaj,Prod.mk.injEq]at hX;exact⟨rest,hX.1,hX.2⟩
      obtain⟨rest,rfl,rfl⟩:=fin C;have ak:elems.length=len:=(by have:=mapM_some_length hm;simpa using this);have each: ∀i,∃q,i<len->ZcJ et q/\(∀c∈q,ZcZ c=true)/\ ∃vals,w.cells? 0 (ad.add (i*P.cellsOf e)) (P.cellsOf e)=some vals/\LRel w (λb=>b<w.heap.size) q vals:=by
       intro i;by_cases hi:i<len;have h2:=mapM_some_get hm i i (by simp[hi]);(let⟨x,hx⟩: ∃x,elems[i]? =some x:=⟨elems[i],by simp[ak,hi]⟩);rw[hx]at h2;(let⟨vals,R,h4⟩:=Zam h2);let⟨q,h5,h6,h7⟩:=ih e et h1 fuel vals x.1 x.2 h4
         (λp hp=>ab p (XbH _ (Xbg.2 ⟨x,Xbu _ (XaC hx),hp⟩)))
         (λm hm=>U m (by
          simp only[DataW.weights,hu,XaF,XaO];exact .inr (.inl (Zhl (List.mem_map_of_mem (XaC hx)) m hm))))
       exact⟨q,λ_=>⟨h5,h7,vals,R,h6⟩⟩;exact⟨[],λh=>absurd h hi⟩
      (let⟨q,hq⟩:=Classical.axiomOfChoice each);have al:=U ((elems.length+rest.length)*P.bytesOf e) (by simp[DataW.weights,hu]);have aa:((List.range len).map q).length=len:=sM;refine one (v:= .slice (some ad) len cap) (q:= .lst ((List.range len).map q)) ?_ ?_ rfl rfl;simp only[ZcJ];refine .inr ⟨_,rfl,by rw[aa];omega, ?_, ?_⟩;rw[aa];exact XaK (Xbk _ oM) al;intro c hc;obtain⟨i,hi,rfl⟩:=XaT.1 hc;exact(hq i (by simpa using hi)).1;simp only[IRel];refine⟨ad,cap,by rw[aa],by rw[aa];exact aj, ?_⟩;by_cases an:len=0;left;subst an;rfl;right;obtain⟨b,o,spot⟩:=ad;have af:spot=none:=(by(let⟨_,_,vals,R,_⟩:=hq 0 oM);(let⟨_,h5,h6⟩:=World.cells?_some R);have h7:=h6 0 hz;(let⟨v0,aq⟩: ∃v0,vals[0]? =some v0:=⟨vals[0],by simp[h5,hz]⟩);rw[aq]at h7;have:=World.cell?_spot h7;simpa[Addr.add]using this);subst af;have ai: ∀m,(⟨b,o,none⟩:Addr).add m=⟨b,o+m,none⟩:=by intro m;unfold Addr.add;split;rename_i h0;subst h0;rfl;rfl
      refine⟨b,o,P.cellsOf e,rfl, ?_, ?_,Zuc (z:=P.cellsOf e) ?_ ?_⟩;have:MemPlace.cell b o∈MemPlace.row ⟨b,o,none⟩ ((elems.length+rest.length)*P.cellsOf e):=(by simp only[MemPlace.row,XaT,XbI];exact⟨0,Nat.mul_pos oM hz,sM⟩);exact ab _ (Xbu _ this);intro c hc;obtain⟨i,hi,rfl⟩:=XaT.1 hc;(let⟨_,_,vals,R,h4⟩:=hq i (by simpa using hi));rw[Zht h4,(World.cells?_some R).2.1];intro c hc;obtain⟨i,hi,rfl⟩:=XaT.1 hc;(let⟨_,_,vals,R,h4⟩:=hq i (by simpa using hi));rw[Zht h4,(World.cells?_some R).2.1];intro i c hc;have hi:i<len:=(by have:=(Xaf.1 hc).1;simpa using this);simp only[XaD,Xa9 hi,Xau,Xaj]at hc;subst hc;(let⟨_,h7,vals,R,h4⟩:=hq i hi);(let⟨_,h5,h6⟩:=World.cells?_some R);refine Zu1 h4 h7 λj v hj=> ?_;have ar:j<P.cellsOf e:=(by have:=(Xaf.1 hj).1;omega);have h8:=h6 j ar;have ag:((⟨b,o,none⟩:Addr).add (i*P.cellsOf e)).add j=⟨b,o+i*P.cellsOf e+j,none⟩:=(by rw[ai];unfold Addr.add;split;rename_i h0;subst h0;rfl;rfl);rw[ag,hj]at h8;exact h8
   cases hs:Znp P t with|none=>rw[hs]at h;cases h|some J=>exact ah J hs h
end
variable [Laid]
open Go.ChangeShapes Go.WideShapes Go.ChangeAt
def ZuR:Ty->PV->Prop
 | .agg ps,p=> ∃cs,p= .agg cs/\HasTys ps cs
 |ty,p=>ZcJ ty [p]
def Zhp:List Ty->List PV->Prop
 | [],j=>j=[]
 |t::ts,j=> ∃q r,j=q::r/\ZuR t q/\Zhp ts r
section
variable {H:Type} {enc:TypeId × Value->H} {P:Program} {w:World}
def Zss {n t ty} (h:Zqr P n t=some ty):(∃ps,ty= .agg ps/\((∃J,P.underlying t=some (.struct J))\/ ∃k e,P.underlying t=some (.array k e)))\/((∀ps,ty≠ .agg ps)/\ ∀v r base,Value.okWide P w r base t v-> ∀cs,v≠ .agg cs):=by cases n with|zero=>simp[Zqr]at h|succ n=>unfold Zqr at h;split at h;rename_i hu;cases h;refine .inr ⟨sM,λv r base j cs=> ?_⟩;rintro rfl;simp[Value.okWide,hu,Cell.okWide,Cell.ok]at j;rename_i hu;cases h;refine .inr ⟨sM,λv r base j cs=> ?_⟩;rintro rfl;simp[Value.okWide,hu,Cell.okWide,Cell.ok]at j;rename_i hu;cases h;refine .inr ⟨sM,λv r base j cs=> ?_⟩;rintro rfl;simp[Value.okWide,hu,Cell.okWide,Cell.ok]at j;rename_i hu;(let⟨x,_,h⟩:=Zam h);(let⟨_,h⟩:=Zau h);cases h;refine .inr ⟨sM,λv r base j cs=> ?_⟩;rintro rfl;simp[Value.okWide,hu,Cell.okWide,Cell.ok]at j;(let⟨C,R,h⟩:=Zam h);cases I:ZhT P (P.cellsOf t) (Zqr P n) C 0 with|none=>simp[I]at h|some tys=>simp[I,Xau]at h;refine .inl ⟨tys,h.symm, ?_⟩;grind [Znp]
def ZHt {n t ty} (j:Zqr P n t=some ty) {v d ps} (J:DataW.Trod enc P w 0 (λ_=>true) true t v d ps) {r base} (C:Value.okWide P w r base t v)
 (R: ∀x∈ps,x.block<w.heap.size) (hl:Lim P t d): ∃p,ZuR ty p/\IRel w (λb=>b<w.heap.size) p v:=by
 let⟨fuel,J⟩:=J
 let⟨U,h1,I,h3⟩:=ZtB n t ty j fuel _ d ps J R hl
 rcases Zss j with⟨tys,rfl,hu⟩|⟨aa,ab⟩;have: ∃cs,v= .agg cs:=by rcases hu with⟨fs,hu⟩|⟨k,e,hu⟩;simp[Value.okWide,hu]at C;exact⟨_,C.choose_spec.1⟩;simp[Value.okWide,hu]at C;exact⟨_,C.choose_spec.1⟩
 obtain⟨cs,rfl⟩:=this;exact⟨.agg U,⟨U,rfl,by simpa only[ZcJ]using h1⟩,⟨cs,rfl,h3,I⟩⟩;have hc:v.cells.toList=[v]:=by cases v with|agg cs=>exact absurd rfl (ab _ r base C cs)|_=>rfl
 rw[hc]at I;cases U with|nil=>simp[LRel]at I|cons q r=>(let⟨v',r',h4,h5,h6⟩:=I);cases h4;have hr:r=[]:=(by cases r with|nil=>rfl|cons x y=>simp[LRel]at h6);subst hr;refine⟨q, ?_,h5⟩;cases ty with|agg ps=>exact absurd rfl (aa ps)|_=>exact h1
def Zuw {n:Nat} {r:Reach} {base:Nat}: ∀ (ts:List TypeId) (vs:List Value) (ds:List (DataW H)) (ps:List MemPlace) (tys:List Ty),DataW.TrodAll enc P w 0 (λ_=>true) true ts vs ds ps->Za3 (Zqr P n) ts=some tys->
 (∀ (j:Nat) t v,ts[j]? =some t->vs[j]? =some v->Value.okWide P w r base t v)->(∀x∈ps,x.block<w.heap.size)->(∀ (j:Nat) t d,ts[j]? =some t->ds[j]? =some d->Lim P t d)->
 ∃I,Zhp tys I/\LRel w (λb=>b<w.heap.size) I vs/\ds.length=ts.length
 | [],[],[],ps,tys,h,C,_,_,_=>by simp_all [ZcA,Zhp,LRel]
 |t::ts,v::vs,d::ds,ps,tys,h,C,hv,hp,hl=>by obtain⟨p,q,h1,h2,rfl⟩:=h;obtain⟨ty,J,h3,h4,rfl⟩:=ZaM C;(let⟨x,h5,h6⟩:=ZHt h3 h1 (hv 0 t v rfl rfl) (λy R=>hp y (Xbu _ R)) (hl 0 t d rfl rfl));(let⟨I,h7,h8,h9⟩:=Zuw ts vs ds q J h2 h4 (λj t v C U=>hv (j+1) t v (by simpa using C) (by simpa using U)) (λy R=>hp y (XbH _ R)) (λj t d C hd=>hl (j+1) t d (by simpa using C) (by simpa using hd)));exact⟨x::I,by simp only[Zhp];exact⟨x,I,rfl,h5,h7⟩,by simp only[LRel];exact⟨v,vs,rfl,h6,h8⟩,by simp[h9]⟩
 | [],_::_,_,_,_,h,_,_,_,_=>by simp[DataW.TrodAll]at h
 | [],[],_::_,_,_,h,_,_,_,_=>by simp[DataW.TrodAll]at h
 |_::_,[],_,_,_,h,_,_,_,_=>by simp[DataW.TrodAll]at h
 |_::_,_::_,[],_,_,h,_,_,_,_=>by simp[DataW.TrodAll]at h
def Znl {w':World} (hl:laidOutB P=true) (I:Below w.heap.size w w'): ∀ (ts:List TypeId) (vs:List Value) (ds:List (DataW H)) (ps:List MemPlace),DataW.TrodAll enc P w 0 (λ_=>true) true ts vs ds ps->
 (∀t∈ts,P.readableRec t=true/\t<P.types.size)->(∀x∈ps,x.block<w.heap.size)->DataW.TrodAll enc P w' 0 (λb=>decide (b<w.heap.size)) true ts vs ds ps
 | [],[],[],ps,h,_,_=>h
 |t::ts,v::vs,d::ds,ps,h,C,hp=>by obtain⟨p,q,J,R,rfl⟩:=h;exact⟨p,q,Below.trod hl (C t Xah).1 (C t Xah).2 J I (λx j=>hp x (Xbu _ j)),Znl hl I ts vs ds q R (λx j=>C x (Xai _ j)) (λx j=>hp x (XbH _ j)),rfl⟩
 | [],_::_,_,_,h,_,_=>by simp[DataW.TrodAll]at h
 | [],[],_::_,_,h,_,_=>by simp[DataW.TrodAll]at h
 |_::_,[],_,_,h,_,_=>by simp[DataW.TrodAll]at h
 |_::_,_::_,[],_,h,_,_=>by simp[DataW.TrodAll]at h
def ZpD {h:Hints} (hS:Static P h) (hP:Zbk P h) (laid:laidOutB P=true) {f:FuncId} {fn:Func} {s:ChangeSpec} {tys:List Ty} {tb:TypeId} (C:s.vars=[]) (ad:fn.resultTypes= #[tb]) (aj:P.underlying tb=some .bool)
 (I: ∀t∈fn.params.toList,P.readableRec t=true/\t<P.types.size) (ae:Za3 (Zqr P 20) fn.params.toList=some tys)
 (J: ∀qs,Zhp tys qs-> ∃n H',(Zc2 P h n).rn f qs []=some (.bool true,H'))
 (R: ∀ds:List (DataW H),ds.length=fn.params.size->s.fn H ds={results:=[.lit (.bool true)],args:=ds,vars:=[]})
 {W:World} {base:Nat} {args:Array Value} {ds gs:List (DataW H)} {before:List MemPlace} {apart fresh handsOn:Bool} (U:Laid.ok (λb=>b<W.heap.size) W)
 (af: ∀ (j:Nat) t v,fn.params[j]? =some t->args[j]? =some v->Value.okWide P W .any base t v) (hW:DataW.Whole enc P fn.params.toList s.vars apart W args.toList ds gs before)
 (ag:(DataW.weightsEach P (fn.params.toList++s.plain.varTypes P) (ds++gs)).all (· <=reachBytes)=true):
 Calls P f args W λe W'=> ∃v,e= .returned v/\s.post enc P fn apart fresh handsOn false W args v W':=by
 have aa:=hW.lt;have ah:=hW;obtain⟨p,q,hA,hV,rfl,_,_⟩:=hW;rw[C]at hV;obtain⟨rfl,rfl⟩:=trodVars_none hV;simp only[XaQ]at ag aa ah;let⟨qs,h1,h2,h3⟩:=Zuw fn.params.toList args.toList ds p tys hA ae (λj t v ht hv=>af j t v (by simpa using ht) (by simpa using hv)) aa (λj t d ht hd n hn=>by have hj:(fn.params.toList++s.plain.varTypes P)[j]? =some t:=(by rw[Xan (Xaf.1 ht).1];exact ht);have:=XaH.1 ag n (DataW.weights_mem_each hj hd n hn);simpa using this)
 let⟨n,H',he⟩:=J qs h1
 have hc:=(ZcF hS hP n).1.rn f qs [] _ H' he (λ_=>none) (λb=>b<W.heap.size) W W.heap.size args.toList (Inv.empty _ W (λ_ hb=>hb) U) (ZdN h2);rw[show args.toList.toArray=args from by simp]at hc;refine hc.mono ?_;rintro e W' ⟨u,φ',S',rfl,_,ai,hu⟩;simp[VRel]at hu;subst hu;have ab:=R ds (by simpa using h3);refine⟨_,rfl,ds,[],p,[],p,[],by simpa using ah, ?_, ?_, ?_,ai.below.frame _,λh=>by cases h⟩;rw[XaQ,ab,ad];exact trodAll_mk1 (shut_bool aj true);rw[XaQ,ab];exact Znl laid ai.below _ _ _ _ hA I aa;rw[C,XaQ,ab];rfl
end
variable [Laid]
def Zqj {α:Type} (l:List (Nat×α)) (i:Nat):Option α:=
 List.rec none (λp _ j=>bif Nat.beq i p.1 then some p.2 else j) l
def mkHints (ok opn mem imp:List Nat) (keep keepB:List (Nat×List (Nat×List Nat×Bool))) (light:List (Nat×List (Nat×List Nat))) (frz:List Nat):Hints where
 ok:=λf=>has f ok
 opn:=λf=>has f opn
 mem:=λf=>has f mem
 imp:=λf=>has f imp
 keep:=λf r=>(Zqj keep f).bind λl=>Zqj l r
 keepB:=λf r=>(Zqj keepB f).bind λl=>Zqj l r
 light:=λf r=>((Zqj light f).bind λl=>Zqj l r).getD []
 perm:=λ_ _=> []
 frz:=λt=>has t frz
 prim:=λ_=>none
def withPerm (h:Hints) (perm:List (Nat×List (Nat×List Nat))):Hints:={h with perm:=λf r=>((Zqj perm f).bind λl=>Zqj l r).getD []}
def static_ofP {P:Program} {ok opn mem imp:List Nat} {keep keepB:List (Nat×List (Nat×List Nat×Bool))} {light perm:List (Nat×List (Nat×List Nat))} {frz:List Nat} (hm:P.follows .mixedOrders=true)
 (hf:(ok.all λf=>ZoI P (withPerm (mkHints ok opn mem imp keep keepB light frz) perm) f)=true):Static P (withPerm (mkHints ok opn mem imp keep keepB light frz) perm):=
 ⟨hm,λf h=>XaH.1 hf f (Zs3 h),λf h=>by simp[mkHints,withPerm]at h⟩
def ZnJ (r:Option (PV×List Mem)):Bool:=
 match r with
 |some (.bool true,_)=>true
 |_=>false
variable [Laid]
def Evt (p:Nat->Prop):Prop:= ∃n,∀m,n<=m->p m
def Evt.of {p:Nat->Prop} (h: ∀m,p m):Evt p:=⟨0,λm _=>h m⟩
def Evt.and {p q:Nat->Prop} (h:Evt p) (j:Evt q):Evt λm=>p m/\q m:=by
 let⟨n,h⟩:=h
 let⟨n',j⟩:=j
 exact⟨max n n',λm hm=>⟨h m oM,j m oM⟩⟩
def Evt.mono {p q:Nat->Prop} (h:Evt p) (j: ∀m,p m->q m):Evt q:=by
 let⟨n,h⟩:=h
 exact⟨n,λm hm=>j m (h m hm)⟩
structure Tends (Es:Nat->Ev) (L:Ev):Prop where
 ex: ∀c code s r,L.ex c code s=some r->Evt λm=>(Es m).ex c code s=some r
 rn: ∀f a H r,L.rn f a H=some r->Evt λm=>(Es m).rn f a H=some r
section
variable (Es:Nat->Ev) (L:Ev)
def Ec {α:Type} (F:Ev->Option α):Prop:= ∀r,F L=some r->Evt λm=>F (Es m)=some r
variable {Es L}
def Ec.const {α:Type} (x:Option α):Ec Es L λ_=>x:=λ_ h=>Evt.of λ_=>h
def Ec.bind {α β:Type} {F:Ev->Option α} {G:α->Ev->Option β} (h:Ec Es L F) (j: ∀a,Ec Es L (G a)):Ec Es L λE=>(F E).bind λa=>G a E:=by
 intro r C;let⟨a,I,J⟩:=Zam C
 exact((h a I).and (j a r J)).mono λm hm=>by show((F (Es m)).bind λa=>G a (Es m))=some r;rw[hm.1];exact hm.2
def Ec.map {α β:Type} {F:Ev->Option α} (g:α->β) (h:Ec Es L F):Ec Es L λE=>(F E).map g:=by
 intro r j;let⟨a,C,I⟩:=ZHD j
 exact(h a C).mono λm hm=>by show(F (Es m)).map g=some r;rw[hm,<-I];rfl
def Ec.ite {α:Type} {c:Prop} [Decidable c] {F G:Ev->Option α} (h:Ec Es L F) (j:Ec Es L G):Ec Es L λE=>if c then F E else G E:=by by_cases C:c;simp_all;simp_all
def Ec.cond {α:Type} {c:Bool} {F G:Ev->Option α} (h:Ec Es L F) (j:Ec Es L G):Ec Es L λE=>bif c then F E else G E:=by cases c;exact j;exact h
variable {P:Program} {h:Hints}
def ZsC (hT:Tends Es L) (f:FuncId) (j:List PV):Ec Es L λE=>ZbZ h E f j:=by unfold ZbZ;cases h.prim f with|none=>exact Ec.bind (hT.rn f j []) λx=>Ec.const _|some g=>exact Ec.const _
def ZwA (hT:Tends Es L) (f:FuncId) (j:List PV) (base:Nat):Ec Es L λE=>Ze8 E f j base:=by exact Ec.bind (hT.rn f j []) λx=>Ec.const _
def ZtK (hT:Tends Es L) (f:FuncId) (args:List PV) (H:List Mem) (base:Nat):Ec Es L λE=>ZiO h E f args H base:=by refine Ec.bind (Ec.const _) λj=>(Ec.cond ?_ ?_);simp_all [ZFH,Ec.map,ZwA];simp_all [ZrS,Ec.bind,ZsC,Ec.const]
def Zrn (hT:Tends Es L) (H:List Mem) (base:Nat) (ρ:Operand->Option PV) (f:FuncId) (c:Call):Ec Es L λE=>Zic h E H base ρ f c:=by exact Ec.ite (Ec.const _) (Ec.bind (Ec.const _) λvs=>ZtK hT f vs H base)
def Zz9 (hT:Tends Es L) (H:List Mem) (base:Nat) (ρ:Operand->Option PV) (c:Call):Ec Es L λE=>ZjS P h E H base ρ c:=by unfold ZjS;split;exact Ec.const _;simp_all [Zrn];exact Ec.const _
def ZJk (hT:Tends Es L) (H:List Mem) (base:Nat) (ρ:Operand->Option PV) (o:Oper):Ec Es L λE=>opR P h E H base ρ o:=by
 unfold opR;split;case h_25=>exact Zz9 hT H base ρ _
 all_goals exact Ec.const _
def Zjb (hT:Tends Es L) (H:List Mem) (ρ:Operand->Option PV) (o:Oper):Ec Es L λE=>ZaU P h E H ρ o:=by simp_all [ZaU,Ec.bind,ZJk,Ec.const]
def Zna (hT:Tends Es L) (f:FuncId) (args:List PV) (H:List Mem):Ec Es L λE=>Zdv h E f args H:=by exact Ec.ite (hT.rn f args H) (Ec.map _ (ZtK hT f args H H.length))
def ZBp (hT:Tends Es L) (H:List Mem) (ρ:Operand->Option PV) (f:FuncId) (c:Call):Ec Es L λE=>Zra h E H ρ f c:=by simp_all [Zra,Ec.bind,Ec.const,Zna]
def ZFU (hT:Tends Es L) (H:List Mem) (ρ:Operand->Option PV) (x:Operand) (c:Call):Ec Es L λE=>Zzy h E H ρ x c:=by
 refine Ec.bind (Ec.const _) λfv=> ?_;cases fv<;>first
  |exact Ec.const _
  |exact Ec.bind (Ec.const _) λvs=>Zna hT _ _ H
def ZBQ (hT:Tends Es L) (H:List Mem) (ρ:Operand->Option PV) (c:Call):Ec Es L λE=>ZiJ P h E H ρ c:=by unfold ZiJ;split;exact Ec.const _;refine Ec.ite (ZBp hT H ρ _ c) ?_;simp_all [Zj6,Ec.map,Zrn];simp_all [ZFU];exact Ec.const _
def ZHO (hT:Tends Es L) (H:List Mem) (ρ:Operand->Option PV) (o:Oper):Ec Es L λE=>opA P h E H ρ o:=by
 unfold opA;split;case h_25=>exact ZBQ hT H ρ _
 all_goals exact Ec.const _
def Zrq (hT:Tends Es L) (N:Nat) (ops:Array Oper) (o:Oper) (s:St):Ec Es L λE=>Zf2 P h E N ops o s:=by refine Ec.bind (Ec.const _) λb=>Ec.cond (Ec.bind (ZHO hT _ _ o) λx=>Ec.const _) (Ec.const _)
def Znb (hT:Tends Es L) (N:Nat) (ops:Array Oper): ∀ (l:List Oper) (s:St),Ec Es L λE=>Zgk P h E N ops l s
 | [],s=>Ec.const _
 |o::l,s=>Ec.bind (Zrq hT N ops o s) λj=>Znb hT N ops l j
def ZBB (hT:Tends Es L) (N:Nat) (ops:Array Oper) (ls:List Nat) (i:Nat) (o:Oper) (s:St):Ec Es L λE=>ZiX P h E N ops ls i o s:=by refine Ec.cond ?_ (Zrq hT N ops o s);exact Ec.bind (Ec.const _) λb=>Ec.cond (Ec.bind (Zjb hT _ _ o) λx=>Ec.const _) (Ec.const _)
def ZuZ (hT:Tends Es L) (H:List Mem): ∀acc:List (Nat×Oper×List (Nat×PV)×PV),Ec Es L λE=>Zfo P h E acc H
 | []=>Ec.const _
 |x::acc=>Ec.bind (Zjb hT H _ x.2.1) λ_=>Ec.cond (ZuZ hT H acc) (Ec.const _)
def ZGe (hT:Tends Es L) (ops:Array Oper) (i:Nat) (o:Oper) (s:St) (acc:List (Nat×Oper×List (Nat×PV)×PV)):Ec Es L λE=>ZHF P h E ops i o s acc:=by exact Ec.bind (Ec.const _) λb=>Ec.cond (Ec.map _ (Zjb hT _ _ o)) (Ec.const _)
def Zhs (hT:Tends Es L) (N:Nat) (ops:Array Oper) (ls:List Nat): ∀ (l:List Oper) (i:Nat) (acc:List (Nat×Oper×List (Nat×PV)×PV)) (s:St),Ec Es L λE=>ZbH P h E N ops ls l i acc s
 | [],_,_,s=>Ec.const _
 |o::l,i,acc,s=>Ec.bind (ZBB hT N ops ls i o s) λC=>Ec.cond (Ec.bind (ZGe hT ops i o s acc) λj=>Zhs hT N ops ls l (i+1) j C) (Ec.bind (ZuZ hT _ (ZcW _ o acc)) λ_=>Zhs hT N ops ls l (i+1) (ZcW _ o acc) C)
def ZFh (hT:Tends Es L) (N:Nat) (ls:List Nat) (ops:Array Oper) (s:St):Ec Es L λE=>ZvB P h E N ls ops s:=by unfold ZvB;split;simp_all [Znb];simp_all [Zhs]
def ZmT (hT:Tends Es L):Tends (λm=>step P h (Es m)) (step P h L):=by
 refine⟨λc code s=> ?_,λf a H=> ?_⟩;show Ec Es L λE=>(step P h E).ex c code s;cases code with
  |region id ops d=>simp_all [step,Ec.map,ZFh]
  |seq a b=>simp[step];refine Ec.bind (hT.ex c a s) λx=> ?_;(let⟨e,j⟩:=x);cases e;exact hT.ex c b j;exact Ec.const _;exact Ec.const _
  |cond x a b=>
   simp[step];refine Ec.bind (Ec.const _) λv=> ?_;cases v<;>first
    |exact Ec.const _
    |exact hT.ex _ _ _
  |block id b=>simp[step];exact Ec.bind (hT.ex c b s) λx=>(Ec.const _)
  |loop b=>simp[step];refine Ec.bind (Ec.const _) λC=>Ec.bind (hT.ex c b C) λx=> ?_;(let⟨e,j⟩:=x);cases e;exact hT.ex c (.loop b) j;exact Ec.const _;exact Ec.const _
  |_=>exact Ec.const _
 show Ec Es L λE=>(step P h E).rn f a H;simp[step];refine Ec.ite ?_ (Ec.const _);split;split;refine Ec.ite ?_ (Ec.const _);exact Ec.bind (hT.ex _ _ _) λx=>Ec.const _;exact Ec.const _;exact Ec.const _
end
section
open Classical
def lim (P:Program) (h:Hints):Ev where
 ex:=λc code s=>if H: ∃r,Evt λm=>(Zc2 P h m).ex c code s=some r then some H.choose else none
 rn:=λf a M=>if H: ∃r,Evt λm=>(Zc2 P h m).rn f a M=some r then some H.choose else none
end
section
variable {P:Program} {h:Hints}
def Zgc:Tends (Zc2 P h) (lim P h):=by refine⟨λc code s r j=> ?_,λf a H r j=> ?_⟩;simp only[lim]at j;split at j;grind;cases j;simp only[lim]at j;split at j;grind;cases j
def Evt.det {α:Type} {F:Nat->Option α} {r j:α} (h:Evt λm=>F m=some r) (C:Evt λm=>F m=some j):r=j:=by
 let⟨n,hn⟩:=h.and C
 have:=hn n (Xae _);grind
def Evt.succ {p:Nat->Prop} (h:Evt λm=>p (m+1)):Evt p:=by
 let⟨n,h⟩:=h
 refine⟨n+1,λm hm=> ?_⟩;obtain⟨k,rfl⟩: ∃k,m=k+1:=⟨m-1,oM⟩;exact h k oM
theorem Zg1 {c:Cx} {code:Code} {s:St} {r:Ex×St} (I:(step P h (lim P h)).ex c code s=some r):(lim P h).ex c code s=some r:=by
 have j:Evt λm=>(Zc2 P h m).ex c code s=some r:=Evt.succ ((ZmT Zgc).ex c code s r I);have C: ∃r,Evt λm=>(Zc2 P h m).ex c code s=some r:=⟨r,j⟩
 simp only[lim];rw[dif_pos C];exact congrArg some (Evt.det C.choose_spec j)
def ZHS {f:FuncId} {a:List PV} {H:List Mem} {r:PV×List Mem} (I:(step P h (lim P h)).rn f a H=some r):(lim P h).rn f a H=some r:=by
 have j:Evt λm=>(Zc2 P h m).rn f a H=some r:=Evt.succ ((ZmT Zgc).rn f a H r I);have C: ∃r,Evt λm=>(Zc2 P h m).rn f a H=some r:=⟨r,j⟩
 simp only[lim];rw[dif_pos C];exact congrArg some (Evt.det C.choose_spec j)
theorem Zw0 {f:FuncId} {a:List PV} {H:List Mem} {r:PV×List Mem} (j:(lim P h).rn f a H=some r): ∃n,(Zc2 P h n).rn f a H=some r:=by
 let⟨n,C⟩:=Zgc.rn f a H r j
 exact⟨n,C n (Xae _)⟩
end
variable [Laid]
section
variable (P:Program) (h:Hints) (E:Ev)
def ZdF (k:Option (List Nat×Bool)) (id:Nat) (c:Cx):Ex×St->Option (Ex×St)
 |(.exit j,I)=>if j=id then(ZfN k c I).map λC=>(.normal,C)else some (.exit j,I)
 |(.normal,I)=>(ZfN k c I).map λC=>(.normal,C)
 |(.ret,I)=>some (.ret,I)
def Zg2 (f:St->Option (Ex×St)):Ex×St->Option (Ex×St)
 |(.normal,C)=>f C
 |(.exit j,C)=>some (.exit j,C)
 |(.ret,C)=>some (.ret,C)
def ZlF (x y:Option (Ex×St)):PV->Option (Ex×St)
 | .bool true=>x
 | .bool false=>y
 |_=>none
def exS (c:Cx):Code->St->Option (Ex×St)
 | .skip,s=>some (.normal,s)
 | .label _,s=>some (.normal,s)
 | .region id ops _,s=>(ZvB P h E c.N (h.light c.fid id) (rgo (h.perm c.fid id) ops) s).map λj=>(.normal,j)
 | .seq a b,s=>(exS c a s).bind (Zg2 (exS c b))
 | .cond x a b,s=>(ev s.tm x).bind (ZlF (exS c a s) (exS c b s))
 | .block id b,s=>(exS c b s).bind (ZdF (h.keepB c.fid id) id c)
 | .loop b,s=>E.ex c (.loop b) s
 | .exit id,s=>some (.exit id,s)
 | .ret,s=>some (.ret,s)
 |_,_=>none
def Zvb (c:Cx) (b:Code) (s:St):Option (Ex×St):=(ZfN (h.keep c.fid (ZdG b)) c s).bind (exS P h E c b)
end
section
variable {P:Program} {h:Hints}
theorem ZeB (c:Cx): ∀ (code:Code) (s:St) (r:Ex×St),exS P h (lim P h) c code s=some r->(lim P h).ex c code s=some r
 | .skip,s,r,C=>Zg1 C
 | .label _,s,r,C=>Zg1 C
 | .region id ops d,s,r,C=>Zg1 C
 | .seq a b,s,r,C=>by(let⟨⟨e,R⟩,J,I⟩:=Zam C);refine Zg1 ?_;simp[step,ZeB c a s _ J,Xad];cases e with|normal=>exact ZeB c b R _ I|exit j=>exact I|ret=>exact I
 | .cond x a b,s,r,C=>by(let⟨v,J,I⟩:=Zam C);refine Zg1 ?_;simp[step,J,Xad];cases v with|bool t=>(cases t with|true=>exact ZeB c a s _ I|false=>exact ZeB c b s _ I)|_=>cases I
 | .block id b,s,r,C=>by(let⟨⟨e,R⟩,J,I⟩:=Zam C);refine Zg1 ?_;simp[step,ZeB c b s _ J,Xad];cases e with|normal=>exact I|exit j=>exact I|ret=>exact I
 | .loop b,s,r,C=>C
 | .exit id,s,r,C=>Zg1 C
 | .ret,s,r,C=>Zg1 C
def ZzT {c:Cx} {b:Code} {s j:St} {r:Ex×St} (C:Zvb P h (lim P h) c b s=some (.normal,j)) (I:(lim P h).ex c (.loop b) j=some r):(lim P h).ex c (.loop b) s=some r:=by
 let⟨J,R,C⟩:=Zam C
 grind [Zg1,step,ZeB]
def Zp8 {c:Cx} {b:Code} {s j:St} {e:Ex} (he:e≠ .normal) (C:Zvb P h (lim P h) c b s=some (e,j)):(lim P h).ex c (.loop b) s=some (e,j):=by
 let⟨I,J,C⟩:=Zam C
 grind [Zg1,step,ZeB]
def ZKt (P:Program) (rs:List ResultVar):Ex×St->Option (PV×List Mem)
 |(.exit _,_)=>none
 |(_,s)=>(Za3 (Zj2 P s.tm s.hp) rs).map λvs=>(ZbW vs,s.hp)
def ZuP {f:FuncId} {fn:Func} {code:Code} {args:List PV} {H:List Mem} {r:PV×List Mem} (C:h.ok f=true) (hf:P.funcs[f]? =some fn) (J:fn.body=some code) (hn:args.length<=fn.ntmps)
 (R:(exS P h (lim P h) ⟨f,H.length,fn.ntmps⟩ code ⟨enterT 0 args,H⟩).bind (ZKt P fn.results.toList)=some r):(lim P h).rn f args H=some r:=by
 let⟨⟨e,s⟩,U,I⟩:=Zam R
 refine ZHS ?_;simp[step,C,if_true,hf,J,hn,ZeB _ _ _ _ U,Xad];cases e with|normal=>exact I|exit j=>cases I|ret=>exact I
def factOf (j:List PV):Option PV:=match j with| []=>some (.bool true)|_=>none
def Zq5 (h:Hints) (l:List FuncId):Hints:={h with prim:=λf=>if has f l then some factOf else none}
def Zsd {l:List FuncId} (J:Static P h) (R:Zbk P h) (hl: ∀f∈l,∃n,ZnJ ((Zc2 P h n).rn f [] [])=true):Zbk P (Zq5 h l):=by
 intro f g hf U v I S w vals hs j hv;simp only[Zq5]at hf;split at hf;rename_i hm;cases hf;let⟨n,hn⟩:=hl f (Zs3 hm)
 cases U with|cons _ _=>cases I|nil=>cases I;(let⟨H',hr⟩: ∃H',(Zc2 P h n).rn f [] []=some (.bool true,H'):=by unfold ZnJ at hn;grind);refine((ZcF J R n).1.rn f [] [] _ H' hr _ S w w.heap.size vals (Inv.empty _ w hs j) (ZdN hv)).mono ?_;rintro e w' ⟨u,φ',S',rfl,_,C,aa⟩;refine⟨u,rfl,C.below, ?_⟩;grind [VRel,IRel]
 cases hf
end
variable [Laid]
def Holds {α:Type} (x:Option α) (Q:α->Prop):Prop:= ∃r,x=some r/\Q r
def Holds.mono {α:Type} {x:Option α} {Q R:α->Prop} (h:Holds x Q) (j: ∀r,Q r->R r):Holds x R:=by
 let⟨r,C,I⟩:=h
 exact⟨r,C,j r I⟩
def Zyt {α β:Type} (f:α->Option β):Za3 f []=some []:=rfl
theorem Zbn {α β:Type} (f:α->Option β) (a:α) (l:List α):Za3 f (a::l)=(f a).bind λb=>(Za3 f l).bind λs=>some (b::s):=rfl
section
variable {P:Program} {h:Hints} {E:Ev}
def want (ds:List (Option Tmp)) (tm:List (Nat×PV)) (j:Nat) (w:Bool):Option Bool:=
 match((ds[j]?).bind id).bind (get tm)with
 |some (.bool b)=>some (b==w)
 |some (.tup [])=>some false
 |_=>none
def opE (P:Program) (h:Hints) (E:Ev) (H:List Mem) (ρ:Operand->Option PV) (op:Op):Zo7:=opA P h E H ρ ⟨none,op,0,"", #[],none⟩
theorem ZzL (H:List Mem) (ρ:Operand->Option PV) (o:Oper):opA P h E H ρ o=opE P h E H ρ o.op:=rfl
def Ze0 (P:Program) (h:Hints) (E:Ev) (N:Nat) (ds:List (Option Tmp)):List Oper->St->Option St
 | [],s=>some s
 |⟨dst,op,ty,pos,after,none⟩::l,s=>(opE P h E s.hp (ev s.tm) op).bind λx=>((ZgX N dst x.1 s.tm).map λtm=>(⟨tm,x.2⟩:St)).bind (Ze0 P h E N ds l)
 |⟨dst,op,ty,pos,after,some (j,w)⟩::l,s=>(want ds s.tm j w).bind λb=>
  (bif b then(opE P h E s.hp (ev s.tm) op).bind λx=>((ZgX N dst x.1 s.tm).map λtm=>(⟨tm,x.2⟩:St))else(ZgX N dst (.tup []) s.tm).map λtm=>⟨tm,s.hp⟩).bind (Ze0 P h E N ds l)
def ZpZ (N:Nat) (ops:Array Oper): ∀ (l:List Oper) (s:St),Zgk P h E N ops l s=Ze0 P h E N (ops.toList.map (·.dst)) l s
 | [],s=>rfl
 |⟨dst,op,ty,pos,after,g⟩::l,s=>by
  show(Zf2 P h E N ops ⟨dst,op,ty,pos,after,g⟩ s).bind (Zgk P h E N ops l)=_;rw[show Zgk P h E N ops l=Ze0 P h E N (ops.toList.map (·.dst)) l from funext (ZpZ N ops l)];cases g with
  |none=>grind [Zf2,ZeT,Ze0,ZzL,Option.bind_assoc]
  |some C=>
   (let⟨j,w⟩:=C);have hw:ZeT ops s.tm ⟨dst,op,ty,pos,after,some (j,w)⟩=want (ops.toList.map (·.dst)) s.tm j w:=by
    simp only[ZeT,want];have:(ops[j]?).bind (·.dst)=((ops.toList.map (·.dst))[j]?).bind id:=(by grind);rw[this];generalize(((ops.toList.map (·.dst))[j]?).bind id).bind (get s.tm)=x;cases x with
    |none=>rfl
    |some v=>cases v<;>first
     |rfl
     |(rename_i vs;cases vs<;>rfl)
   simp_all [Zf2,Ze0,ZzL,Option.bind_assoc]
theorem ZCo (N:Nat) (ops:Array Oper) (s:St):ZvB P h E N [] ops s=Ze0 P h E N (ops.toList.map (·.dst)) ops.toList s:=ZpZ N ops _ s
def Sl (q:PV) (es:List (List PV)):Prop:=(q= .nils/\es=[])\/q= .lst es
def Sl.len {q:PV} {es:List (List PV)} (j:Sl q es) {t e:TypeId} (hu:P.underlying t=some (.slice e)) (H:List Mem):ZeW P H t q=some (.int .i64 es.length):=by rcases j with⟨rfl,rfl⟩|rfl;simp[ZeW,hu];simp[ZeW,hu]
def Sl.index {q:PV} {es:List (List PV)} (C:Sl q es) {t e:TypeId} {z:Nat} (hu:P.underlying t=some (.slice e)) (R:Zbi P e=some z) (H:List Mem) {k:IntKind} {j:Int} {c:List PV} (U:0<=j) (I:j<es.length) (hc:es[j.toNat]? =some c) (J:c.length=z):
 Zar P H t q (.int k j)=some (.box c 0):=by rcases C with⟨rfl,rfl⟩|rfl;simp at I;omega;simp_all [Zar,Xad]
end
end
end Go.Am
