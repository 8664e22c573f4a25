/- The evaluator of the model's code on plain values, with its soundness and its walking rules (part 2). -/
import Derived.Test.YtplkkbcnilnfaaaGreatDoorAmA
import Derived.Orders
import Derived.LoopN
import Derived.ProofKit
import Derived.SizedLaws
set_option linter.all false
namespace Go.Am
noncomputable section
variable [Laid]
open Go.RowKit
section
variable {P:Program} {h:Hints} {E:Ev} {w:World} {φ:Phi} {S:Nat->Prop} {B:Nat} {H:List Mem}
def Zie {es:List (List PV)} {z z':Nat} (j:Zdd es z=true) (hw: ∀x∈es,x.length=z'): ∀x∈es,x.length=z:=by cases es with|nil=>simp|cons c r=>simp only[Zdd,beq_iff_eq]at j;have:z'=z:=(by rw[<-hw c Xai];exact j);subst this;exact hw
def Zhe {x:PV} {new:List (List PV)} {X:Value} {z:Nat} (hI:Inv φ H w S B) (U:Zoi H x=some new) (hx:VRel φ w S x X) (R:Zdd new z=true):
 (∀w',(Builtin.lenOf X).run P w'= .ok new.length w')/\(∀y∈new,y.length=z)/\ ∃vals,VL φ w S new.flatten vals/\(∀c∈new.flatten,ZcT c=true)/\
  ∀ (w':World) (k:Nat),k<=new.length->(∀b,b<w.heap.size->w'.heap[b]? =w.heap[b]?)->(Builtin.firstCells z k X).run P w'= .ok (vals.take (k*z)).toArray w':=by
 have I: ∀es,elems H x=some es->new=es->(∀w',(Builtin.lenOf X).run P w'= .ok new.length w')/\(∀y∈new,y.length=z)/\ ∃vals,VL φ w S new.flatten vals/\(∀c∈new.flatten,ZcT c=true)/\
  ∀ (w':World) (k:Nat),k<=new.length->(∀b,b<w.heap.size->w'.heap[b]? =w.heap[b]?)->(Builtin.firstCells z k X).run P w'= .ok (vals.take (k*z)).toArray w':=by
  intro es aa ab;subst ab;obtain⟨a,c,rfl,hle,J⟩:=Zku hI aa hx;refine⟨λw'=>rfl, ?_, ?_⟩;rcases J with rfl|⟨b,o,z',_,hw,_⟩;simp;exact Zie R hw;rcases J with rfl|⟨b,o,z',rfl,hw,hv⟩;refine⟨[],by simp[VL],by simp,λw' k hk _=> ?_⟩;have:k=0:=(by simpa using hk);subst this;cases a<;>simp[Builtin.firstCells,loadCells,loadCellsFrom];obtain⟨vs,h1,h2,h3⟩:=VC.vals (VE.flat hv);refine⟨vs,h1,h2,λw' k hk hb=> ?_⟩;have hlen:vs.length=new.length*z:=(by rw[VL.length h1,Za0 new (Zie R hw)]);have ad:(vs.take (k*z)).length=k*z:=(by rw[Xay,hlen];exact XaQ (Xbx _ hk));have:=run_loadCells_list (P:=P) w' ⟨b,o,none⟩ (vs.take (k*z)) (λj v hj=>by rw[Addr.add_lit];have ae:vs[j]? =some v:=(by rw[List.getElem?_take]at hj;split at hj;exact hj;cases hj);have C:=h3 j v ae;rw[ZgV (hb b (World.block_lt_of_cell? w _ C))];exact C);rw[ad]at this;simpa[Builtin.firstCells]using this
 unfold Zoi at U;split at U;·rename_i b;cases U;simp only[VRel]at hx;subst hx;have hlen:(byteCells b).length=b.size:=(by simp[byteCells]);refine⟨λw'=>by rw[hlen];rfl,Zie (z':=1) R (by intro y hy;simp only[byteCells,XaU]at hy;obtain⟨q,_,rfl⟩:=hy;rfl),(b.data.toList.map λq=>(q.toNat:Int)).map (Value.int .u8), ?_, ?_, ?_⟩;have hf:(byteCells b).flatten=(b.data.toList.map λq=>(q.toNat:Int)).map (PV.int .u8):=(by simp only[byteCells];rw[ZeD (λq:UInt8=>PV.int .u8 q.toNat),XbE];rfl);rw[hf];exact Zqp _;intro c J;simp only[byteCells,List.mem_flatten,XaU]at J;obtain⟨l,⟨q,_,rfl⟩,J⟩:=J;simp at J;subst J;rfl;·intro w' k hk _;have af:b.size=0\/z=1:=(by cases hd:byteCells b with|nil=>left;rw[<-hlen,hd];rfl|cons c r=>right;rw[hd]at R;simp only[Zdd,beq_iff_eq]at R;have:c∈byteCells b:=(by rw[hd];exact Xai);simp only[byteCells,XaU]at this;obtain⟨q,_,rfl⟩:=this;exact R.symm);have ag:k*z=k:=(by rcases af with h0|rfl;have:k=0:=(by omega);subst this;simp;simp);rw[ag];simp only[Builtin.firstCells,Sem.run_pure];congr 1;apply Array.ext';simp[ByteArray.data_extract,Array.toList_extract,List.extract_eq_take_drop,List.map_take];rfl
 exact I new U rfl
def ZhR {t:Option TypeId} (j:ZfI P t=true):t=none\/ ∃t1 d,t=some t1/\P.underlying t1=some d/\ ∀k,d≠ .int k:=by cases t with|none=>exact .inl rfl|some t=>right;simp only[ZfI]at j;cases hu:P.underlying t with|none=>simp[hu]at j|some d=>refine⟨t,d,rfl,hu, ?_⟩;rintro k rfl;simp[hu]at j
def Ze6 {ts:Array TypeId} {ty t e:TypeId} {z n sLen sCap:Nat} {base:Option Addr} {I:Value} {vals:List Value} {w':World} (ht:ts[0]? =some t) (hu:P.underlying t=some (.slice e)) (hz:Zbe P e=some z) (hn:ZfI P (ts[1]?)=true)
 (hlen: ∀w',(Builtin.lenOf I).run P w'= .ok n w') (J:(Builtin.firstCells z n I).run P w= .ok vals.toArray w) (C:sLen+n<=sCap)
 (j:(match base with|some a=>storeCells (a.add (sLen*z)) vals|none=>pure ():Sem Unit).run P w= .ok () w'):
 (Builtin.append_ ts ty #[.slice base sLen sCap,I]).run P w= .ok (.slice base (sLen+n) sCap) w':=by
 have R:(#[Value.slice base sLen sCap,I]:Array Value)[0]? =some (.slice base sLen sCap):=rfl;have U:(#[Value.slice base sLen sCap,I]:Array Value)[1]? =some I:=rfl;unfold Builtin.append_;simp only[ht,R,U,Sem.run_bind,run_underlying hu,Result.andThen_ok,ZaO hz];have fin: ∀s:Sem Unit,s.run P w= .ok () w'->(do s;pure (Value.slice base (sLen+n) sCap):Sem Value).run P w= .ok (.slice base (sLen+n) sCap) w':=by intro s hs;simp[hs]
 rcases ZhR hn with h1|⟨t1,d,h1,aa,hd⟩;simp only[h1,Sem.run_bind,Sem.run_pure,Result.andThen_ok,XaO,if_false,if_true,hlen,Bool.not_false,J,if_pos C];cases base with|none=>simp only[Sem.run_pure]at j|-;cases j;rfl|some a=>simp only[Sem.run_bind,List.toList_toArray]at j|-;rw[j];rfl
 simp only[h1,Sem.run_bind,run_underlying aa,Result.andThen_ok];have ab: ∀b:Bool,b=false->(pure b:Sem Bool).run P w= .ok false w:=by rintro _ rfl;rfl
 cases d<;>first
   |exact absurd rfl (hd _)
   |(simp only[Sem.run_bind,Sem.run_pure,Result.andThen_ok,XaO,if_false,if_true,hlen,Bool.not_false,J,if_pos C]
     cases base with
     |none=>simp only[Sem.run_pure]at j|-;cases j;rfl
     |some a=>simp only[Sem.run_bind,List.toList_toArray]at j|-;rw[j];rfl)
def Zf1 {ts:Array TypeId} {ty t e:TypeId} {z by_ n sLen sCap:Nat} {base:Option Addr} {I zv:Value} {olds vals:List Value} {i:TypeInfo} (ht:ts[0]? =some t) (hu:P.underlying t=some (.slice e)) (hi:P.info? e=some i) (hz:i.size=z) (ae:i.bytes=by_)
 (af:i.zero=some zv) (hn:ZfI P (ts[1]?)=true)
 (hlen: ∀w',(Builtin.lenOf I).run P w'= .ok n w') (J:(Builtin.firstCells z n I).run P w.drew= .ok vals.toArray w.drew) (R:(Builtin.firstCells z sLen (.slice base sLen sCap)).run P w.drew= .ok olds.toArray w.drew) (ak:sCap<sLen+n)
 (al:0<by_) (hb:(sLen+n)*by_<=140737488355328):
 (Builtin.append_ ts ty #[.slice base sLen sCap,I]).run P w= .ok (.slice (some ⟨w.heap.size,0,none⟩) (sLen+n) (grownCap w (sLen+n) sCap e))
  (w.drew.alloc (.cells (olds.toArray++vals.toArray++Builtin.zeroCells zv.cells (grownCap w (sLen+n) sCap e-(sLen+n))) e)):=by
 have ag:(#[Value.slice base sLen sCap,I]:Array Value)[0]? =some (.slice base sLen sCap):=rfl;have ah:(#[Value.slice base sLen sCap,I]:Array Value)[1]? =some I:=rfl;have ai:(sizeOf e).run P w= .ok z w:=by simp[sizeOf,typeInfo,hi,hz]
 have U: ∀w,(typeInfo e).run P w= .ok i w:=by intro w;simp[typeInfo,hi]
 have aa: ∀w,(zeroValue e).run P w= .ok zv w:=by intro w;simp[zeroValue,typeInfo,hi,af]
 have j: ¬sLen+n<=sCap:=by omega
 have ab: ¬i.bytes=0:=by omega
 have C: ¬Builtin.nextslicecap (sLen+n) sCap*i.bytes>2^48:=by have:=growslice_fits (need:=sLen+n) (old:=sCap) (bytes:=by_) (by omega) hb;rw[ae];have e:(2:Nat)^48=281474976710656:=(by decide);omega
 have ad:(choose (.appendCap (sLen+n) sCap e)).run P w= .ok (grownCap w (sLen+n) sCap e) w.drew:=by rw[run_choose];rfl
 unfold Builtin.append_;simp only[ht,ag,ah,Sem.run_bind,run_underlying hu,Result.andThen_ok,ai];rcases ZhR hn with h1|⟨t1,d,h1,aj,hd⟩;simp only[h1,Sem.run_bind,Sem.run_pure,Result.andThen_ok,XaO,if_false,if_true,hlen,Bool.not_false,if_neg j,U,ab,or_self,and_false,if_neg C,ad,run_askRoom,R,J,aa,newRow,run_newObj];rfl;simp only[h1,Sem.run_bind,run_underlying aj,Result.andThen_ok]
 cases d<;>first
   |exact absurd rfl (hd _)
   |(simp only[Sem.run_bind,Sem.run_pure,Result.andThen_ok,XaO,if_false,if_true,hlen,Bool.not_false,if_neg j,U,ab,or_self,and_false,if_neg C,ad,run_askRoom,R,J,aa,newRow,run_newObj]
     rfl)
def Zjj (z:Array Value) (n:Nat):Builtin.zeroCells z n=madeCells z (n*z.size):=rfl
def Zk3 (z:Array Value) (n:Nat):(Builtin.zeroCells z n).size=n*z.size:=by rw[Zjj,size_madeCells]
def ZiN {e:TypeId} {z n sLen:Nat} {zv:Value} {id:Nat} {es:List (List PV)} {olds vals:List Value} (hI:Inv φ H w S B) (J:φ id=none) (hH:H[id]? =some (.row es z true)) (cap:Nat) (I:sLen+n<=cap)
 (hw: ∀c∈es,c.length=z) (hl:es.length=sLen+n) (hv:VL φ w S es.flatten (olds++vals)) (h1: ∀c∈es.flatten,ZcT c=true) (R:zv.cells.size=z):
 ∃φ' S',Inv φ' H (w.drew.alloc (.cells (olds.toArray++vals.toArray++Builtin.zeroCells zv.cells (cap-(sLen+n))) e)) S' B/\Evo H.length B φ S w φ' S' (w.drew.alloc (.cells (olds.toArray++vals.toArray++Builtin.zeroCells zv.cells (cap-(sLen+n))) e))/\
  VRel φ' (w.drew.alloc (.cells (olds.toArray++vals.toArray++Builtin.zeroCells zv.cells (cap-(sLen+n))) e)) S' (.ref id 0 (sLen+n) (sLen+n)) (.slice (some ⟨w.heap.size,0,none⟩) (sLen+n) cap)/\ ∀i,i≠id->φ' i=φ i:=by
 have hlen:(olds++vals).length=(sLen+n)*z:=by rw[VL.length hv,Za0 es hw,hl]
 have C:(olds.toArray++vals.toArray++Builtin.zeroCells zv.cells (cap-(sLen+n))).size=cap*z:=by simp only[Array.size_append,List.size_toArray,Zk3,R];rw[Xas]at hlen;rw[hlen,<-Xbv];congr 1;omega
 obtain⟨φ',S',h2,h3,h4,h5⟩:=hI.add (fz:=(0,0)) (Zfp w (.cells (olds.toArray++vals.toArray++Builtin.zeroCells zv.cells (cap-(sLen+n))) e)) J hH (Zd4 w _) hw hv h1
  (by intro j v U
      have:j<(olds++vals).length:=(Xae.1 U).1
      rw[show olds.toArray++vals.toArray=(olds++vals).toArray from by simp,Array.getElem?_append_left (by simpa using this)]
      simpa using U)
  (by rw[hl,C];exact Xbx _ I) (by intro j U;simp)
 refine⟨φ',S',h2,h3, ?_,h5⟩;simp only[VRel];exact⟨_,_,cap,h4,rfl,Xag _,I, .inr ⟨by simp,by simp only[Xak];exact Xbj C.symm⟩⟩
def ZiI {id i:Nat} {es new:List (List PV)} {z:Nat} {l:Loc} {vals:List Value} (J:Inv φ H w S B) (I:φ id=some l) (hm:H[id]? =some (.row es z true)) (hw: ∀c∈new,c.length=z) (hv:VL φ w S new.flatten vals) (ho: ∀c∈new.flatten,ZcT c=true)
 (hle:i+new.length<=es.length):
 (storeCells ⟨l.b,l.o+i*z,none⟩ vals).run P w= .ok () (w.setCells l.b (l.o+i*z) vals)/\Inv φ (H.set id (.row (splice es i new) z true)) (w.setCells l.b (l.o+i*z) vals) S B/\Evo H.length B φ S w φ S (w.setCells l.b (l.o+i*z) vals):=by
 have C:=J.row id l es z true I hm;have U:=Za0 new hw;have ah:=Za0 es C.wid;have ai:vals.length=new.length*z:=by rw[VL.length hv,U]
 have ag:=C.top;have aj:i*z+new.length*z<=es.length*z:=by rw[<-Xbv];exact Xbx _ hle
 have ab: ∀x∈splice es i new,x.length=z:=λx hx=>(Zix hx).elim (C.wid x) (hw x)
 have ad:(splice es i new).length=es.length:=Zhn _ _ _ hle;have ae:(splice es i new).flatten=splice es.flatten (i*z) new.flatten:=by unfold splice;rw[XbV,XbV,U];have ht:(es.take i).flatten=es.flatten.take (i*z):=(by have h1:es.flatten=(es.take i).flatten++(es.drop i).flatten:=(by rw[<-XbV,Xa9]);have h2:(es.take i).flatten.length=i*z:=(by rw[Za0 _ (λx hx=>C.wid x (XaR hx)),Xay,XaQ (by omega)]);rw[h1,<-h2,List.take_left' rfl]);have hd:(es.drop (i+new.length)).flatten=es.flatten.drop (i*z+new.length*z):=(by have h1:es.flatten=(es.take (i+new.length)).flatten++(es.drop (i+new.length)).flatten:=(by rw[<-XbV,Xa9]);have h2:(es.take (i+new.length)).flatten.length=i*z+new.length*z:=(by rw[Za0 _ (λx hx=>C.wid x (XaR hx)),Xay,XaQ (by omega),Xbv]);rw[h1,<-h2,List.drop_left' rfl]);rw[ht,hd]
 refine⟨?_, ?_⟩;have:=run_storeCells_cells (P:=P) l.b (l.o+i*z) vals 0 w
   (λj R=>by rw[show l.o+i*z+0+j=l.o+(i*z+j)from by omega];exact(ZeZ C _ (by omega)).1)
   (λj R=>by rw[show l.o+i*z+0+j=l.o+(i*z+j)from by omega];exact(ZeZ C _ (by omega)).2) (ZnN hv ho)
 simpa using this;refine J.patch (id:=id) (l:=l) (es':=splice es i new) (z:=z) I (λ_ _=>rfl) (.inr I) (by simp[(J.live id l I).2.2]) ?_ (by simp) (Zcs _ _ _ _) (Zdy _ _ _ _) (λb hb=>ZbY _ _ _ _ _ hb)
   (C.own rfl) (J.live id l I).1 (J.live id l I).2.1 ?_ (C.set (λ_ _ h=>h) ae ab ad hv ho (by omega))
 intro j l' R _;exact .inl (by rw[XaD (λe=>R e.symm)]);intro j lj m R af aa ha;rw[XaD (λe=>R e.symm)]at aa;exact J.apart j id lj l m _ R af I aa hm ha rfl
def Znb {ts:Array TypeId} {ty t e:TypeId} {z by_:Nat} {zero:List PV} {s x v:PV} {sv xv:Value} {new:List (List PV)} {H':List Mem} (U:Inv φ H w S B) (ht:ts[0]? =some t) (hu:P.underlying t=some (.slice e)) (hz:Zbe P e=some z) (bn:Zj4 P e=some by_)
 (b5:ZdO P e=some zero) (bz:Zoi H x=some new) (hn:ZfI P (ts[1]?)=true) (av:0<by_) (cd:0<z) (b6:zero.length=z) (hh:Zdd new z=true) (C:Zbz H z by_ s new=some (v,H')) (hs:VRel φ w S s sv) (hx:VRel φ w S x xv):
 ∃u w' φ' S',(Builtin.append_ ts ty #[sv,xv]).run P w= .ok u w'/\Inv φ' H' w' S' B/\Evo H.length B φ S w φ' S' w'/\VRel φ' w' S' v u/\ ∀i,i<H.length->φ' i=φ i:=by
 obtain⟨hlen,aw,vals,hv,ho,b0⟩:=Zhe (P:=P) U bz hx hh;obtain⟨i,zv,hi,bo,b1,_⟩:=Zcy (w:=w) (φ:=φ) (S:=S) b5;have ax:i.size=z:=by unfold Zbe at hz;rw[hi]at hz;simpa using hz
 have ay:i.bytes=by_:=by unfold Zj4 at bn;rw[hi]at bn;simpa using bn
 have az:zv.cells.size=z:=by have:=VL.length b1;simpa[b6]using this
 have b7:vals.length=new.length*z:=by rw[VL.length hv,Za0 new aw]
 have bp:vals.take (new.length*z)=vals:=XaA (by omega);have aj:=b0 w new.length (Xag _) (λ_ _=>rfl);have ao:=b0 w.drew new.length (Xag _) (λ_ _=>rfl);rw[bp]at aj ao;unfold Zbz at C;split at C;simp only[VRel]at hs;subst hs;by_cases aa:new.isEmpty=true;rw[if_pos aa]at C;cases C;have:new=[]:=XbS.1 aa;subst this;have bq:vals=[]:=by simpa[VL]using hv
 subst bq;exact⟨_,w,φ,S,Ze6 (base:=none) (sCap:=0) ht hu hz hn hlen aj (by simp) (by rfl),U,Evo.refl _ _ _ _ _,by simp only[VRel];rfl,λ_ _=>rfl⟩;rw[if_neg aa]at C;obtain⟨hb,C⟩:=Zak C;cases C;have bk:0<new.length:=by cases new with|nil=>simp at aa|cons _ _=>simp
 have hr:=Zf1 (ts:=ts) (ty:=ty) (sLen:=0) (sCap:=0) (base:=none) (olds:=[]) ht hu hi ax ay bo hn hlen ao (by simp[Builtin.firstCells]) (by omega) av (by simpa using hb);have bs:Inv φ (H++ [Mem.row new z true]) w S B:=U.reheap (λj l hj=> .inl (by rw[Xam (U.live j l hj).2.2])) (by simp);have al:φ H.length=none:=by cases I:φ H.length with|none=>rfl|some l=>have:=(U.live _ l I).2.2;omega
 have a1:=grownCap_ge w (0+new.length) 0 e;obtain⟨φ',S',h2,h3,h4,h5⟩:=ZiN (e:=e) (zv:=zv) (sLen:=0) (n:=new.length) (olds:=[]) (vals:=vals) (id:=H.length) bs al (by simp) (grownCap w (0+new.length) 0 e) a1 aw (by simp) (by simpa using hv) ho az;refine⟨_,_,φ',S',hr,h2,h3.mono (by simp), ?_,λi hi=>h5 i (by omega)⟩;simpa using h4;rename_i id j n room;split at C;rename_i es z' hm;obtain⟨⟨b8,hle⟩,C⟩:=Zak C;subst b8;simp only[VRel]at hs;obtain⟨l,ad,cp,hl,rfl,a6,ab,ae⟩:=hs;have b2:n<=cp:=XaK a6 ab;have hr:=U.row id l es z' true hl hm;by_cases aa:new.isEmpty=true;rw[if_pos aa]at C;cases C;have:new=[]:=XbS.1 aa;subst this;have bq:vals=[]:=by simpa[VL]using hv
 subst bq;refine⟨_,w,φ,S,Ze6 (base:=some ad) ht hu hz hn hlen aj (by simpa using b2) (by rfl),U,Evo.refl _ _ _ _ _, ?_,λ_ _=>rfl⟩;simp only[VRel];exact⟨l,ad,cp,hl,by simp,a6,ab,ae⟩;rw[if_neg aa]at C;have bk:0<new.length:=by cases new with|nil=>simp at aa|cons _ _=>simp
 by_cases af:n+new.length<=room;rw[if_pos af]at C;obtain⟨cf,C⟩:=Zak C;cases C;rcases ae with⟨h0,b9⟩|⟨rfl,aq⟩;omega;obtain⟨h1,h2,h3⟩:=ZiI (P:=P) (i:=j+n) (new:=new) U hl hm aw hv ho (by omega);have e1:l.o+j*l.z+n*z'=l.o+(j+n)*z':=by rw[hr.zs,Xbv];omega
 have a7:=Ze6 (ts:=ts) (ty:=ty) (base:=some ⟨l.b,l.o+j*l.z,none⟩) (w':=w.setCells l.b (l.o+(j+n)*z') vals) ht hu hz hn hlen aj (XaK af ab) (by show(storeCells ((⟨l.b,l.o+j*l.z,none⟩:Addr).add (n*z')) vals).run P w=_;rw[Addr.add_lit,e1];exact h1);refine⟨_,_,φ,S,a7,h2,h3, ?_,λ_ _=>rfl⟩;simp only[VRel];exact⟨l,_,cp,hl,rfl,af,ab, .inr ⟨rfl,aq⟩⟩;rw[if_neg af]at C;obtain⟨hb,C⟩:=Zak C;cases C;have cc:=(U.live id l hl).2.2;have al:φ H.length=none:=by cases I:φ H.length with|none=>rfl|some l=>have:=(U.live _ l I).2.2;omega
 have hold:VE φ w S ((es.drop j).take n) l.b (l.o+j*l.z):=by rw[hr.zs];exact VE.take n (VE.drop j hr.wid (by omega) hr.cells)
 have ag: ∀c∈(es.drop j).take n,c.length=z':=λc I=>hr.wid c (XbD (XaR I))
 have J:((es.drop j).take n).length=n:=by rw[Xay,Xbo];omega
 obtain⟨olds,a8,bt,bu⟩:=VC.vals (VE.flat hold);have ah:olds.length=n*z':=by rw[VL.length a8,Za0 _ ag,J]
 have ai: ∀c∈(es.drop j).take n++new,c.length=z':=λc I=>(XaJ.1 I).elim (ag c) (aw c)
 have ak:Inv φ (H.set id .dead++ [Mem.row ((es.drop j).take n++new) z' true]) w S B:=U.reheap (λk lk R=>by have ba:=(U.live k lk R).2.2;rw[Xam (by simpa using ba)];by_cases au:k=id;subst au;right;simp[ba];left;rw[XaD (λe=>au e.symm)]) (by simp);have bb:(H.set id .dead++ [Mem.row ((es.drop j).take n++new) z' true])[H.length]? =some (.row ((es.drop j).take n++new) z' true):=by rw[Xaz (by simp)];simp
 by_cases bl:n+new.length<=cp;rcases ae with⟨h0,b9⟩|⟨rfl,aq⟩;omega;have bc:=hr.zs;rw[bc]at aq;have cg:(j+n)*z'+new.length*z'<=l.top:=by rw[<-Xbv];exact XaK (Xbx _ (by omega)) aq
 have e1:l.o+j*l.z+n*z'=l.o+(j+n)*z':=by rw[bc,Xbv];omega
 have an: ∀k,k<vals.length->(w.cell? ⟨l.b,l.o+(j+n)*z'+k,none⟩).isSome=true/\w.frozen? ⟨l.b,l.o+(j+n)*z'+k,none⟩=false:=by intro k R;have:=ZeZ hr ((j+n)*z'+k) (by omega);rwa[<-XbA]at this
 have ca:=run_storeCells_cells (P:=P) l.b (l.o+(j+n)*z') vals 0 w (λk R=>by simpa using(an k R).1) (λk R=>by simpa using(an k R).2) (ZnN hv ho);have a7:=Ze6 (ts:=ts) (ty:=ty) (base:=some ⟨l.b,l.o+j*l.z,none⟩) (w':=w.setCells l.b (l.o+(j+n)*z') vals) ht hu hz hn hlen aj bl (by show(storeCells ((⟨l.b,l.o+j*l.z,none⟩:Addr).add (n*z')) vals).run P w=_;rw[Addr.add_lit,e1];simpa using ca);let l':Loc:=⟨l.b,l.o+j*z',z',l.top-j*z'⟩
 let φ':Phi:=λk=>if k=H.length then some l' else φ k
 have hp: ∀k lk,φ k=some lk->φ' k=some lk:=by intro k lk R;show(if k=H.length then _ else φ k)=_;rw[if_neg];exact R;rintro rfl;rw[al]at R;cases R
 have bw: ¬S l.b:=hr.own rfl;have bh: ∀k,S k->S k/\(w.setCells l.b (l.o+(j+n)*z') vals).heap[k]? =w.heap[k]? :=λk R=>⟨R,ZbY _ _ _ _ _ (by rintro rfl;exact bw R)⟩
 have ch:(j+n)*z'=j*z'+n*z':=Xbv _ _ _
 have ar:=ak.patch (w':=w.setCells l.b (l.o+(j+n)*z') vals) (id:=H.length) (l:=l') (φ':=φ') (H':=H.set id .dead++ [Mem.row ((es.drop j).take n++new) z' true]) (if_pos rfl) (λk R=>if_neg R) (.inl al) bb (λ_ _ _ _=> .inl rfl) (Xag _)
       (Zcs _ _ _ _) (Zdy _ _ _ _) (λb hb=>ZbY _ _ _ _ _ hb) bw (U.live id l hl).1 (U.live id l hl).2.1
       (by
        intro k lk m R b3 bf ha;have ba:=(U.live k lk b3).2.2;rw[Xam (by simpa using ba)]at bf;by_cases au:k=id;subst au;simp[ba]at bf;subst bf;simp[Mem.alive]at ha;rw[XaD (λe=>au e.symm)]at bf;exact U.apart k id lk l m _ au b3 hl bf hm ha rfl)
       ⟨rfl,by simp only[Xas,J];show(n+new.length)*z'<=l.top-j*z';rw[Xbv];omega,ai,by
        refine VE.append ag (VE.of_flat ?_) ?_;have bg:=VC.keep (φ':=φ') hp bh _ _ (.inl (by rw[Za0 _ ag,J,bc];omega)) (VE.flat hold);rw[bc]at bg;exact bg;rw[J];show VE φ' _ S new l.b (l.o+j*z'+n*z');rw[show l.o+j*z'+n*z'=l.o+(j+n)*z' from by omega];exact VE.of_flat (VC.fresh hp bh hv ho (λk R=>(an k R).1)),by
        obtain⟨cur,e',fz,h1,h2,h3⟩:=hr.blk;obtain⟨bm,h4,h5⟩:=Zex l.b vals (l.o+(j+n)*z') w cur e' fz h1;refine⟨bm,e',fz,h4, ?_,λcj k R=>by rw[World.frozen?_setCells];exact h3 rfl k (by omega)⟩;show l.o+j*z'+(l.top-j*z')<=bm.size;omega,λ_=>bw,λh=>by cases h⟩
 refine⟨_,_,φ',S,a7,ar.1,ar.2.mono (by simp), ?_,λi hi=>if_neg (by omega)⟩;simp only[VRel];refine⟨l',_,cp,if_pos rfl,rfl,Xag _,bl, .inr ⟨by show _=(⟨l.b,l.o+j*z'+0*z',none⟩:Addr);rw[bc];simp, ?_⟩⟩;show(0+cp)*z'<=l.top-j*z';have:(j+cp)*z'=j*z'+cp*z':=Xbv _ _ _;simp only[Xak];omega;have bj:(Builtin.firstCells z' n (.slice (some ad) n cp)).run P w.drew= .ok olds.toArray w.drew:=by rcases ae with⟨h0,_⟩|⟨rfl,_⟩;subst h0;have:olds=[]:=Xbg.1 (by simpa using ah);subst this;simp[Builtin.firstCells,loadCells,loadCellsFrom];have:=run_loadCells_list (P:=P) w.drew ⟨l.b,l.o+j*l.z,none⟩ olds (λk v R=>by rw[Addr.add_lit];exact bu k v R);rw[ah]at this;simpa[Builtin.firstCells]using this
 have bx:=Zf1 (ts:=ts) (ty:=ty) (sLen:=n) (sCap:=cp) (base:=some ad) (olds:=olds) ht hu hi ax ay bo hn hlen ao bj (by omega) av hb;have a1:=grownCap_ge w (n+new.length) cp e
 obtain⟨φ',S',h2,h3,h4,h5⟩:=ZiN (e:=e) (zv:=zv) (sLen:=n) (n:=new.length) (olds:=olds) (vals:=vals) (id:=H.length) ak al bb (grownCap w (n+new.length) cp e) a1 ai (by simp[J])
      (by rw[XbV];exact VL.append a8 hv) (by intro c I;rw[XbV]at I;exact(XaJ.1 I).elim (bt c) (ho c)) az
 exact⟨_,_,φ',S',bx,h2,h3.mono (by simp),h4,λi hi=>h5 i (by omega)⟩;cases C;rename_i es;cases I:(new.isEmpty|| !Zdd es z)with
  |true=>rw[I]at C;cases C
  |false=>
   rw[I,cond_false]at C;obtain⟨hb,C⟩:=Zak C;cases C;rw[Xbz]at I;have cb:Zdd es z=true:=(by have:=I.2;simpa using this);have bk:0<new.length:=(by cases new with|nil=>simp at I|cons _ _=>simp);have bh:VRel φ w S (.lst es) sv:=(by simp only[VRel,IRel]at hs|-;obtain⟨a,h1,h2⟩:=hs;exact⟨a,_,h1,Xag _,h2⟩);obtain⟨_,b4,olds,a8,bt,bu⟩:=Zhe (P:=P) U (x:= .lst es) rfl bh cb;simp only[VRel,IRel]at hs;obtain⟨ad,rfl,_⟩:=hs;have ah:olds.length=es.length*z:=(by rw[VL.length a8,Za0 es b4]);have bj:=bu w.drew es.length (Xag _) (λ_ _=>rfl);rw[XaA (Xbj ah)]at bj;have bs:Inv φ (H++ [Mem.row (es++new) z true]) w S B:=U.reheap (λj l hj=> .inl (by rw[Xam (U.live j l hj).2.2])) (by simp);have al:φ H.length=none:=(by cases I:φ H.length with|none=>rfl|some l=>have:=(U.live _ l I).2.2;omega);have ai: ∀c∈es++new,c.length=z:=λc I=>(XaJ.1 I).elim (b4 c) (aw c)
   have bx:=Zf1 (ts:=ts) (ty:=ty) (sLen:=es.length) (sCap:=es.length) (base:=some ad) (olds:=olds) ht hu hi ax ay bo hn hlen ao bj (by omega) av hb;have a1:=grownCap_ge w (es.length+new.length) es.length e;obtain⟨φ',S',h2,h3,h4,h5⟩:=ZiN (e:=e) (zv:=zv) (sLen:=es.length) (n:=new.length) (olds:=olds) (vals:=vals) (id:=H.length) bs al (by simp) (grownCap w (es.length+new.length) es.length e) a1 ai (by simp)
    (by rw[XbV];exact VL.append a8 hv) (by intro c I;rw[XbV]at I;exact(XaJ.1 I).elim (bt c) (ho c)) az
   exact⟨_,_,φ',S',bx,h2,h3.mono (by simp),h4,λi hi=>h5 i (by omega)⟩
 cases C
end
variable [Laid]
section
variable {P:Program} {h:Hints} {E:Ev} {w:World} {φ:Phi} {S:Nat->Prop} {B:Nat} {H:List Mem}
def ZrJ {H:List Mem} {id:Nat} {m:Mem} (h:H[id]? =some m):H.set id m=H:=by apply XaW;intro j;by_cases C:id=j;subst C;rw[XaE (Xae.1 h).1,h];rw[XaD C]
def ZhB {ts:Array TypeId} {ty:TypeId} {s x v:PV} {sv xv:Value} {H':List Mem} (hI:Inv φ H w S B) (j:Zc5 P H ts s x=some (v,H')) (hs:VRel φ w S s sv) (hx:VRel φ w S x xv):
 ∃u w' φ' S',(Builtin.append_ ts ty #[sv,xv]).run P w= .ok u w'/\Inv φ' H' w' S' B/\Evo H.length B φ S w φ' S' w'/\VRel φ' w' S' v u/\ ∀i,i<H.length->φ' i=φ i:=by unfold Zc5 at j;obtain⟨t,ht,j⟩:=Zai j;obtain⟨e,he,j⟩:=Zai j;obtain⟨z,hz,j⟩:=Zai j;obtain⟨by_,I,j⟩:=Zai j;obtain⟨zero,J,j⟩:=Zai j;obtain⟨new,C,j⟩:=Zai j;obtain⟨⟨hn,R,U,aa,hh⟩,j⟩:=Zak j;exact Znb hI ht (ZeP he) hz I J C hn R U aa hh j hs hx
def Zqv {ts:Array TypeId} {ty:TypeId} {d x v:PV} {dv xv:Value} {H':List Mem} (hI:Inv φ H w S B) (j:Zqw P H ts d x=some (v,H')) (hd:VRel φ w S d dv) (hx:VRel φ w S x xv):
 ∃u w',(Builtin.copy_ ts ty #[dv,xv]).run P w= .ok u w'/\Inv φ H' w' S B/\Evo H.length B φ S w φ S w'/\VRel φ w' S v u:=by
 unfold Zqw at j;obtain⟨t,ht,g1⟩:=Zai j;obtain⟨e,he,g2⟩:=Zai g1;obtain⟨z,hz,g3⟩:=Zai g2;obtain⟨src,ab,g4⟩:=Zai g3;obtain⟨⟨aq,hh⟩,g5⟩:=Zak g4;clear j g1 g2 g3 g4;have j:=g5;clear g5;have hu:=ZeP he;obtain⟨hlen,ae,vals,hv,ho,af⟩:=Zhe (P:=P) hI ab hx hh;have ag:(#[dv,xv]:Array Value)[0]? =some dv:=rfl;have ah:(#[dv,xv]:Array Value)[1]? =some xv:=rfl;split at j;cases j;simp only[VRel]at hd;subst hd;have I:=af w 0 (Xap _) (λ_ _=>rfl);refine⟨.int .i64 0,w, ?_,hI,Evo.refl _ _ _ _ _,ZbF _ _⟩;have J:Nat.min src.length 0=0:=Nat.min_zero _;simp only[Builtin.copy_,ht,ag,ah,Sem.run_bind,run_underlying hu,Result.andThen_ok,hlen,ZaO hz,J,I];rfl;rename_i id i n room;split at j;rename_i es z' hm;obtain⟨⟨ak,hle⟩,j⟩:=Zak j;subst ak;cases j;simp only[VRel]at hd;obtain⟨l,ad,cp,hl,rfl,R,U,aa⟩:=hd;have ao:n<=cp:=XaK R U;have hr:=hI.row id l es z' true hl hm;have hk:min src.length n<=src.length:=Nat.min_le_left _ _;have ar:min src.length n<=n:=Nat.min_le_right _ _;have I:=af w (min src.length n) hk (λ_ _=>rfl);have ai:(src.take n).length=min src.length n:=by rw[Xay,Nat.min_comm]
 have aj:(src.take n).flatten=src.flatten.take (min src.length n*z'):=by have h1:src.flatten=(src.take n).flatten++(src.drop n).flatten:=(by rw[<-XbV,Xa9]);have h2:(src.take n).flatten.length=min src.length n*z':=(by rw[Za0 _ (λx hx=>ae x (XaR hx)),ai]);rw[h1,<-h2,List.take_left' rfl]
 have al:VL φ w S (src.take n).flatten (vals.take (min src.length n*z')):=by rw[aj];exact VL.take _ hv
 have C: ∀w',(storeCells ad (vals.take (min src.length n*z'))).run P w= .ok () w'->(Builtin.copy_ ts ty #[.slice (some ad) n cp,xv]).run P w= .ok (.int .i64 (min src.length n:Nat)) w':=by intro w' an;have J:Nat.min src.length n=min src.length n:=rfl;simp only[Builtin.copy_,ht,ag,ah,Sem.run_bind,run_underlying hu,Result.andThen_ok,hlen,ZaO hz,J,I,List.toList_toArray,an];rfl
 rcases aa with⟨h0,_⟩|⟨rfl,_⟩;subst h0;have e0:src.take 0=[]:=rfl;have e1:min src.length 0=0:=Nat.min_zero _;refine⟨_,w,C w (by rw[e1];simp[storeCells]), ?_,Evo.refl _ _ _ _ _,ZbF _ _⟩;rw[e0,Zh8,ZrJ hm];exact hI;obtain⟨h1,h2,h3⟩:=ZiI (P:=P) (i:=i) (new:=src.take n) hI hl hm (λc hc=>ae c (XaR hc)) al (λc hc=>ho c (by rw[aj]at hc;exact XaR hc)) (by rw[ai];omega);rw[hr.zs]at C|-;exact⟨_,_,C _ h1,h2,h3,ZbF _ _⟩;cases j;cases j
def Zpu {ts:Array TypeId} {ty:TypeId} {d v:PV} {dv:Value} {H':List Mem} (hI:Inv φ H w S B) (j:Zkt P H ts d=some (v,H')) (hd:VRel φ w S d dv):
 ∃u w',(Builtin.clear_ ts ty #[dv]).run P w= .ok u w'/\Inv φ H' w' S B/\Evo H.length B φ S w φ S w'/\VRel φ w' S v u:=by
 unfold Zkt at j;obtain⟨t,ht,g1⟩:=Zai j;obtain⟨e,he,g2⟩:=Zai g1;obtain⟨z,hz,g3⟩:=Zai g2;obtain⟨zero,ag,g4⟩:=Zai g3;obtain⟨⟨aq,aa⟩,g5⟩:=Zak g4;clear j g1 g2 g3 g4;have j:=g5;clear g5;have hu:=ZeP he;obtain⟨ti,zv,ah,ai,ab,aj⟩:=Zcy (w:=w) (φ:=φ) (S:=S) ag;have ak:(zeroValue e).run P w= .ok zv w:=by simp[zeroValue,typeInfo,ah,ai]
 have an:zv.cells.size=z:=by have:=VL.length ab;simpa[aa]using this
 have I:(#[dv]:Array Value)[0]? =some dv:=rfl;have C:VRel φ w S (.tup []) (.tuple #[]):=by simp only[VRel,VL];exact⟨#[],rfl,rfl⟩
 split at j;cases j;simp only[VRel]at hd;subst hd;refine⟨.tuple #[],w, ?_,hI,Evo.refl _ _ _ _ _,C⟩;simp only[Builtin.clear_,ht,I,Sem.run_bind,run_underlying hu,Result.andThen_ok];rfl;rename_i id i n room;split at j;rename_i es z' hm;obtain⟨⟨al,hle⟩,j⟩:=Zak j;subst al;cases j;simp only[VRel]at hd;obtain⟨l,ad,cp,hl,rfl,J,R,U⟩:=hd;have ao:n<=cp:=XaK J R;have hr:=hI.row id l es z' true hl hm;cases n with
   |zero=>refine⟨.tuple #[],w, ?_, ?_,Evo.refl _ _ _ _ _,C⟩;simp only[Builtin.clear_,ht,I,Sem.run_bind,run_underlying hu,Result.andThen_ok];rfl;rw[List.replicate_zero,Zh8,ZrJ hm];exact hI
   |succ n=>
    rcases U with⟨h0,_⟩|⟨rfl,_⟩;omega;have ae: ∀k,VL φ w S (List.replicate k zero).flatten (List.replicate k zv.cells.toList).flatten:=by intro k;induction k with|zero=>simp[VL]|succ k ih=>simp only[List.replicate_succ,XbW];exact VL.append ab ih
    obtain⟨h1,h2,h3⟩:=ZiI (P:=P) (i:=i) (new:=List.replicate (n+1) zero) hI hl hm (by intro c hc;rw[(List.mem_replicate.1 hc).2];exact aa) (ae (n+1))
      (by intro x hx;simp only[List.mem_flatten,List.mem_replicate]at hx;obtain⟨y,⟨_,rfl⟩,hx⟩:=hx;exact aj x hx) (by simpa using hle)
    refine⟨.tuple #[],_, ?_,h2,h3, ?_⟩;have af:(Builtin.zeroCells zv.cells (n+1)).toList=(List.replicate (n+1) zv.cells.toList).flatten:=(by rw[Zjj];exact Zdk _ _);simp only[Builtin.clear_,ht,I,Sem.run_bind,run_underlying hu,Result.andThen_ok,ak,af];rw[hr.zs,h1];rfl;simp only[VRel,VL];exact⟨#[],rfl,rfl⟩
 cases j;cases j
def Zjl {key:Ky} {d:TypeDesc} (hd:Zfy key d=true) {v:PV} {vv:Value}: ∀ {es es':List (PV×PV)} {C:List MapEntry} (i:Nat),Zdq key v es=some es'->VM φ w S es C->VRel φ w S v vv->
 (∃j u,Instr.findNow d key.val C i=some (some (i+j,u))/\ ∃e,C[j]? =some e/\e.key=key.val/\VM φ w S es' (C.modify j λe=>{e with key:=key.val,val:=vv}))\/
 (Instr.findNow d key.val C i=some none/\ ∀b,VM φ w S es' (C++ [{key:=key.val,val:=vv,born:=b}]))
 | [],es',C,i,h,hv,hx=>by simp only[Zdq,Xaf]at h;subst h;simp only[VM]at hv;subst hv;exact .inr ⟨rfl,λb=>⟨_,[],rfl,ZBF _,hx,rfl⟩⟩
 |(k,u)::es,es',C,i,h,hv,hx=>by obtain⟨e,l',rfl,hk,R,hr⟩:=hv;rw[Zdq]at h;cases hb:ZDs key k with|none=>rw[hb]at h;cases h|some b=>rw[hb,Xaa]at h;obtain⟨J,h0⟩:=ZlR hd hb hk;cases b with|true=>cases h;left;refine⟨0,e.val,by simp only[Instr.findNow,J,Nat.add_zero],e,rfl,h0 rfl, ?_⟩;exact⟨_,l',rfl,ZBF _,hx,hr⟩|false=>rw[cond_false]at h;cases I:Zdq key v es with|none=>simp[I]at h|some aa=>simp only[I,Xal,Xaf]at h;subst h;have U:Instr.findNow d key.val (e::l') i=Instr.findNow d key.val l' (i+1):=(by simp only[Instr.findNow,J]);rcases Zjl hd (i+1) I hr hx with⟨j,u',J,e2,h2,h3,h4⟩|⟨J,h2⟩;(·left;refine⟨j+1,u',by rw[U,J];congr 3;omega,e2,by simpa using h2,h3, ?_⟩;exact⟨e,_,rfl,hk,R,h4⟩);right;exact⟨by rw[U,J],λb=>⟨e,_,rfl,hk,R,h2 b⟩⟩
def Zqf (key:Ky):Instr.sameBits 10000 key.val key.val=true:=by show Instr.sameBits (9999+1) key.val key.val=true;cases key with|s b=>have j:(b==b)=true:=(by rw[Zn3];exact beq_self_eq_true _);simp only[Ky.val,Instr.sameBits,j]|i k n=>simp[Ky.val,Instr.sameBits]
def Inv.patchMap {w':World} {id:Nat} {l:Loc} {es es':List (PV×PV)} {aa:Array MapEntry} {clock:Nat} (R:Inv φ H w S B) (hl:φ id=some l) (hm:H[id]? =some (.map es)) (ab:w'.os=w.os/\w'.tape=w.tape/\w'.output=w.output) (ae:w'.heap.size=w.heap.size)
 (J: ∀b,b≠l.b->w'.heap[b]? =w.heap[b]?) (ak:w'.heap[l.b]? =some (.map aa clock)) (hv:VMc φ w S es' aa.toList clock):Inv φ (H.set id (.map es')) w' S B/\Evo H.length B φ S w φ S w':=by
 obtain⟨al,_⟩:=R.map id l es hl hm;have hs: ∀b,S b->S b/\w'.heap[b]? =w.heap[b]? :=λb hb=>⟨hb,J b (by rintro rfl;exact al hb)⟩
 have an:=(R.live id l hl).2.2;have C: ∀j m,(H.set id (.map es'))[j]? =some m->(j=id/\m= .map es')\/(j≠id/\H[j]? =some m):=by intro j m hj;by_cases ai:j=id;subst ai;simp[an]at hj;exact .inl ⟨rfl,hj.symm⟩;rw[XaD (λe=>ai e.symm)]at hj;exact .inr ⟨ai,hj⟩
 have ao: ∀j lj m,j≠id->φ j=some lj->H[j]? =some m->m.alive=true->lj.b≠l.b:=λj lj m hj au af ha=>R.apart j id lj l m _ hj au hl af hm ha rfl
 refine⟨⟨?_, ?_, ?_, ?_,λb hb=>by rw[ae];exact R.stable b hb,by rw[ae];exact R.base,Laid.mono _ _ _ _ hs R.laid⟩,λi x _ h=>h,hs,λ_ _ I=>I,ab.1,ab.2.1,ab.2.2,by rw[ae];exact Xag _,λk hk=>J k (by have:=(R.live id l hl).1;omega)⟩;intro i x I;have:=R.live i x I;exact⟨this.1,by rw[ae];exact this.2.1,by simpa using this.2.2⟩;intro i x aj z m I ad;rcases C i _ ad with⟨_,U⟩|⟨ag,U⟩;cases U;exact(R.row i x aj z m I U).mono (λ_ _ h=>h) hs (J _ (ao i x _ ag I U rfl)) (λy=>y);intro i x aj I ad;rcases C i _ ad with⟨rfl,U⟩|⟨ag,U⟩;cases U;rw[hl]at I;cases I;exact⟨al,aa,clock,ak,VMc.mono (λ_ _ h=>h) hs hv⟩;obtain⟨h3,en,cl,h4,h5⟩:=R.map i x aj I U;exact⟨h3,en,cl,by rw[J _ (ao i x _ ag I U rfl)];exact h4,VMc.mono (λ_ _ h=>h) hs h5⟩;intro i j x y m m' ah I hy ad af ha aq;rcases C i _ ad with⟨rfl,U⟩|⟨ag,U⟩;rcases C j _ af with⟨rfl,_⟩|⟨ar,h2⟩;exact absurd rfl ah;exact R.apart _ _ x y _ _ ah I hy hm h2 rfl aq;rcases C j _ af with⟨rfl,_⟩|⟨ar,h2⟩;exact R.apart _ _ x y _ _ ah I hy U hm ha rfl;exact R.apart _ _ x y _ _ ah I hy U h2 ha aq
def ZgC {r:Nat} {I j:Array MapEntry} {c C:Nat} (J:w.heap[r]? =some (.map I c)):(setObj r (.map j C)).run P w= .ok () {w with heap:=w.heap.setIfInBounds r (.map j C)}:=by simp[setObj,Sem.run,J]
def ZlB {t:TypeId} {m k x:PV} {mv kv xv:Value} {H':List Mem} {v:PV} (hI:Inv φ H w S B) (ab:ZpQ P H t (some m) (some k) (some x)=some (v,H')) (hm:VRel φ w S m mv) (hk:VRel φ w S k kv) (hx:VRel φ w S x xv):
 ∃w',(Instr.mapUpdate t mv kv xv).run P w= .ok () w'/\v= .tup []/\Inv φ H' w' S B/\Evo H.length B φ S w φ S w':=by
 unfold ZpQ at ab;obtain⟨e,he,g1⟩:=Zai ab;simp only[Xaa]at g1;obtain⟨key,af,g2⟩:=Zai g1;clear ab g1;have aj:=Zmi af;subst aj;have hk:=ZBn hk;subst hk;obtain⟨kt,hu,I⟩:=ZlC he;cases hd:Zfy key e.1 with
 |false=>rw[hd]at g2;cases g2
 |true=>
 rw[hd,cond_true]at g2;split at g2;rename_i id;split at g2;rename_i es U;cases hp:Zdq key x es with
   |none=>simp[hp]at g2
   |some es'=>
    simp only[hp,Xal,Xaf,Prod.mk.injEq]at g2;obtain⟨rfl,rfl⟩:=g2;simp only[VRel]at hm;obtain⟨l,hl,rfl⟩:=hm;obtain⟨_,C,clock,hb,hv,ad,ag⟩:=hI.map id l es hl U;have ak:=(hI.live id l hl).2.1;have ah:(getObj l.b).run P w= .ok (.map C clock) w:=(by simp[getObj,Sem.run,hb]);have aa: ∀ (J:Array MapEntry) (c':Nat),VMc φ w S es' J.toList c'->Inv φ (H.set id (.map es')) {w with heap:=w.heap.setIfInBounds l.b (.map J c')} S B/\Evo H.length B φ S w φ S {w with heap:=w.heap.setIfInBounds l.b (.map J c')}:=by intro J c' al;refine hI.patchMap (clock:=c') hl U ⟨rfl,rfl,rfl⟩ (by simp) (λb R=> ?_) ?_ al;simp only[Array.getElem?_setIfInBounds];rw[if_neg (λe=>R e.symm)];simp only[Array.getElem?_setIfInBounds];simp[ak]
    rcases Zjl hd 0 hp hv hx with⟨j,u,h1,e2,h2,h3,h4⟩|⟨h1,h2⟩;have ae:(Instr.findKey kt key.val C.toList).run P w= .ok (some (0+j,u)) w:=(by simp[Instr.findKey,run_underlying I,h1]);have hs:=aa (C.modify (0+j) λe=>{e with key:=key.val,val:=xv}) clock (by
      rw[Array.toList_modify,Xak];refine⟨h4,λe he=> ?_, ?_⟩;obtain⟨i,hi⟩:=List.mem_iff_getElem?.1 he;rw[List.getElem?_modify]at hi;obtain⟨e0,h5,h6⟩:=Option.map_eq_some_iff.1 hi;have:=ad e0 (XaF h5);subst h6;split<;>exact this;have e0: ∀l:List MapEntry,(l.modify j λe=>{e with key:=key.val,val:=xv}).map (·.born)=l.map (·.born):=λl=>by apply XaW;intro i;rw[XaC,XaC,List.getElem?_modify];cases l[i]? with|none=>rfl|some x=>show some (if j=i then _ else x).born=some x.born;split<;>rfl
      rw[e0];exact ag)
    have an:C[0+j]? =some e2:=(by rw[Xak];simpa using h2);have ai:(Instr.keyThatStays (((C[0+j]?).map (·.key)).getD key.val) key.val).run P w= .ok key.val w:=(by rw[an];simp only[Xal,XbH,h3,Instr.keyThatStays,Zqf,if_true,Sem.run_pure]);refine⟨_, ?_,rfl,hs.1,hs.2⟩;simp only[Instr.mapUpdate,Sem.run_bind,run_underlying hu,Result.andThen_ok,ah,Zdh I hd,ae,ai,ZgC hb];have ae:(Instr.findKey kt key.val C.toList).run P w= .ok none w:=(by simp[Instr.findKey,run_underlying I,h1]);have hs:=aa (C.push {key:=key.val,val:=xv,born:=clock}) (clock+1) (by rw[Array.toList_push];refine⟨h2 clock,λe he=> ?_, ?_⟩;rcases XaJ.1 he with he|he;exact Nat.lt_succ_of_lt (ad e he);rw[Xat.1 he];exact XaS _;rw[Xby,List.nodup_append];refine⟨ag,by simp,λa ha b R e=> ?_⟩;obtain⟨x,hx,rfl⟩:=XaU.1 ha;have h5:=ad x hx;rw[List.map_singleton,Xat]at R;have ao:b=clock:=R;have e2:x.born=b:=e;omega);refine⟨_, ?_,rfl,hs.1,hs.2⟩;simp only[Instr.mapUpdate,Sem.run_bind,run_underlying hu,Result.andThen_ok,ah,Zdh I hd,ae,ZgC hb]
 cases g2;cases g2
variable {tm:List (Nat × PV)} {N:Nat} {o:Oper} {a:Act} {K:Act->World->Prop} {Q:Exit->Act->World->Prop}
def Zf4 {w':World} (h:(execOp a.eval o).run P w= .ok .skip w') (j:K (a.put o.dst undef) w'):o.wp P a w K Q:=by unfold Oper.wp;rw[h];exact j
def ZaV (H:List Mem) (i j:Nat):(freeze1 H i)[j]? =H[j]?\/(i=j/\ ∃es z m,H[j]? =some (.row es z m)/\(freeze1 H i)[j]? =some (.row es z false)):=by unfold freeze1;split;rename_i es z m hm;by_cases C:i=j;subst C;right;exact⟨rfl,es,z,m,hm,by simp[(Xae.1 hm).1]⟩;left;rw[XaD C];exact .inl rfl
def Zco (H:List Mem) (i:Nat):(freeze1 H i).length=H.length:=by unfold freeze1;split<;>simp
def ZaW: ∀ (ids:List Nat) (H:List Mem),(freeze ids H).length=H.length
 | [],H=>rfl
 |i::ids,H=>by show(freeze ids (freeze1 H i)).length=_;rw[ZaW ids,Zco]
def Inv.freeze1 (J:Inv φ H w S B) (i:Nat): ∃S',Inv φ (freeze1 H i) w S' B/\Evo H.length B φ S w φ S' w/\(∀l es z m,φ i=some l->H[i]? =some (.row es z m)->S' l.b):=by
 cases hl:φ i with
 |none=>refine⟨S,⟨λj l h=>by rw[Zco];exact J.live j l h, ?_, ?_, ?_,J.stable,J.base,J.laid⟩,Evo.refl _ _ _ _ _,λl es z m h=>by cases h⟩;intro j l es z m R hm;rcases ZaV H i j with h|⟨rfl,_⟩;exact J.row j l es z m R (by rw[<-h];exact hm);rw[hl]at R;cases R;intro j l es R hm;rcases ZaV H i j with h|⟨rfl,_⟩;exact J.map j l es R (by rw[<-h];exact hm);rw[hl]at R;cases R;intro j k x y m m' af hx hy hm ai ha ag;rcases ZaV H i j with h|⟨rfl,_⟩;rcases ZaV H i k with h'|⟨rfl,_⟩;exact J.apart j k x y m m' af hx hy (by rw[<-h];exact hm) (by rw[<-h'];exact ai) ha ag;rw[hl]at hy;cases hy;rw[hl]at hx;cases hx
 |some l=>
  by_cases ad: ∃es z m,H[i]? =some (.row es z m)
  obtain⟨es,z,m,hm⟩:=ad;(let S':Nat->Prop:=λb=>S b\/b=l.b);have hs: ∀b,S b->S' b/\w.heap[b]? =w.heap[b]? :=λb hb=>⟨.inl hb,rfl⟩
  have hB:=(J.live i l hl).1;have ab: ∀ (j:Nat) (m':Mem),(Am.freeze1 H i)[j]? =some m'->m'.alive=true-> ∃m2:Mem,H[j]? =some m2/\m2.alive=true:=by intro j m' R ha;rcases ZaV H i j with h|⟨rfl,aa,z2,m2,h1,h2⟩;exact⟨m',by rw[<-h];exact R,ha⟩;exact⟨_,h1,rfl⟩
  refine⟨S',⟨λj l h=>by rw[Zco];exact J.live j l h, ?_, ?_, ?_, ?_,J.base,Laid.mono _ _ _ _ hs J.laid⟩,⟨λ_ _ _ h=>h,hs,λb hb h=>h.elim id (λh=>by omega),Below.refl _ _⟩,λl' es z m h _=>by cases h;exact .inr rfl⟩;intro j lj aa z2 m2 R C;rcases ZaV H i j with h|⟨rfl,aj,z3,m3,h1,h2⟩;have U:H[j]? =some (.row aa z2 m2):=(by rw[<-h];exact C);by_cases ae:i=j;subst ae;rw[hl]at R;cases R;have I:=J.row i l aa z2 m2 hl U;refine⟨I.zs,I.top,I.wid,VE.mono (λ_ _ h=>h) hs _ _ _ rfl I.cells,I.blk, ?_,λ_=> .inr rfl⟩;intro ak;have:(Am.freeze1 H i)[i]? =some (.row es z false):=(by unfold Am.freeze1;rw[hm];simp[(Xae.1 hm).1]);rw[this]at C;cases C;cases ak;refine(J.row j lj aa z2 m2 R U).mono (λ_ _ h=>h) hs rfl ?_;rintro(h'|h');exact h';exact absurd h' (J.apart j i lj l _ _ (λe=>ae e.symm) R hl U hm rfl rfl);rw[h2]at C;cases C;rw[hl]at R;cases R;have I:=J.row i l _ _ m3 hl h1;exact⟨I.zs,I.top,I.wid,VE.mono (λ_ _ h=>h) hs _ _ _ rfl I.cells,by obtain⟨cur,e,fz,h1,h2,_⟩:=I.blk;exact⟨cur,e,fz,h1,h2,λh=>by cases h⟩,λh=>by(cases h),λ_=> .inr rfl⟩;intro j lj aa R C;rcases ZaV H i j with h|⟨rfl,aj,z3,m3,h1,h2⟩;have U:H[j]? =some (.map aa):=(by rw[<-h];exact C);have ae:j≠i:=(by rintro rfl;rw[hm]at U;cases U);obtain⟨h4,ah,clock,h5,h6⟩:=J.map j lj aa R U;refine⟨?_,ah,clock,h5,VMc.mono (λ_ _ h=>h) hs h6⟩;rintro(h'|h');exact h4 h';exact absurd h' (J.apart j i lj l _ _ ae R hl U hm rfl rfl);rw[h2]at C;cases C;intro j k x y m1 m2 af hx hy al C ha ag;obtain⟨aq,h1,an⟩:=ab j m1 al ha;obtain⟨ar,h2,ao⟩:=ab k m2 C ag;exact J.apart j k x y _ _ af hx hy h1 h2 an ao;rintro b (hb|rfl);exact J.stable b hb;exact(J.live i l hl).2.1;have:Am.freeze1 H i=H:=(by unfold Am.freeze1;split;rename_i es z m hm;exact absurd ⟨es,z,m,hm⟩ ad;rfl);rw[this];exact⟨S,J,Evo.refl _ _ _ _ _,λl es z m _ hm=>absurd ⟨es,z,m,hm⟩ ad⟩
def Inv.freeze: ∀ (ids:List Nat) {H:List Mem} {S:Nat->Prop},Inv φ H w S B-> ∃S',Inv φ (freeze ids H) w S' B/\Evo H.length B φ S w φ S' w/\(∀i∈ids,∀l es z m,φ i=some l->H[i]? =some (.row es z m)->S' l.b)
 | [],H,S,C=>⟨S,C,Evo.refl _ _ _ _ _,by simp⟩
 |i::ids,H,S,C=>by obtain⟨S1,h1,h2,h3⟩:=C.freeze1 i;obtain⟨S2,h4,I,U⟩:=Inv.freeze ids h1;refine⟨S2,h4,h2.trans (by rw[Zco]at I;exact I), ?_⟩;intro j hj l es z m J hm;rcases Xau.1 hj with rfl|hj;exact(I.st _ (h3 l es z m J hm)).1;rcases ZaV H i j with h|⟨rfl,R,z3,m3,h7,h8⟩;exact U j hj l es z m J (by rw[h];exact hm);exact U i hj l R z3 false J h8
end
variable [Laid]
def Sub (H Hs:List Mem):Prop:= ∀ (id:Nat) (m:Mem),H[id]? =some m-> ∃j,Hs[id]? =some j/\simM m j
section
variable {P:Program} {h:Hints} {E:Ev} {H Hs:List Mem}
def Sub.row (I:Sub H Hs) {id:Nat} {es:List (List PV)} {z:Nat} {m:Bool} (h:H[id]? =some (.row es z m)): ∃j,Hs[id]? =some (.row es z j):=by obtain⟨j,J,C⟩:=I id _ h;cases j<;>simp[simM]at C;obtain⟨rfl,rfl⟩:=C;exact⟨_,J⟩
def Sub.map (C:Sub H Hs) {id:Nat} {es:List (PV×PV)} (h:H[id]? =some (.map es)):Hs[id]? =some (.map es):=by obtain⟨I,J,j⟩:=C id _ h;cases I<;>simp[simM]at j;subst j;exact J
def Zun (C:Sub H Hs) {x:PV} {es:List (List PV)} (he:elems H x=some es):elems Hs x=some es:=by
 cases x<;>simp only[elems]at he|- <;>try exact he
 rename_i id i n room;split at he;rename_i hm;obtain⟨I,j⟩:=C.row hm;rw[j];exact he;cases he
def ZqM (C:Sub H Hs) {t:TypeId} {x p:PV} (he:Zb2 P H t x=some p):Zb2 P Hs t x=some p:=by
 cases x<;>simp only[Zb2]at he|- <;>try exact he
 split at he;rename_i hm;obtain⟨I,j⟩:=C.row hm;rw[j];exact he;cases he
def ZpU (j:Sub H Hs) {s d:TypeId} {x p:PV} (he:Zdp P H s d x=some p):Zdp P Hs s d x=some p:=by unfold Zdp at he|-;split at he;exact he;exact he;exact he;exact he;split at he;obtain⟨es,C,I⟩:=Zai he;simp only[Zun j C,Xaa];exact I;cases he;cases he
def Zo2 (I:Sub H Hs) {t:TypeId} {x p:PV} {lo hi C:Option PV} (he:ZbV P H t x lo hi C=some p):ZbV P Hs t x lo hi C=some p:=by unfold ZbV at he|-;split at he;exact he;exact he;obtain⟨z,J,he⟩:=Zai he;obtain⟨⟨l,k,x⟩,R,he⟩:=Zai he;simp only[J,R,Xaa];simp only[]at he;split at he;rename_i hm;obtain⟨U,j⟩:=I.row hm;rw[j];exact he;cases he;exact he;cases he
def Zjs (I:Sub H Hs) {t:TypeId} {x C p:PV} (he:Zao P H t x C=some p):Zao P Hs t x C=some p:=by unfold Zao at he|-;split at he;split at he;exact he;obtain⟨z,J,he⟩:=Zai he;simp only[J,Xaa];obtain⟨R,he⟩:=Zak he;rw[if_pos R];split at he;rename_i hm;obtain⟨U,j⟩:=I.row hm;rw[j];exact he;cases he;exact he;exact he;cases he;cases he
def Zt6 (j:Sub H Hs) {t:TypeId} {x p:PV} (he:ZeS P H t x=some p):ZeS P Hs t x=some p:=by
 unfold ZeS at he|-;split at he<;>try exact he
 split at he;rename_i hm;rw[j.map hm];exact he;cases he
def ZtU (j:Sub H Hs) {x:PV} {es:List (PV×PV)} (he:Zm7 H x=some es):Zm7 Hs x=some es:=by
 cases x<;>simp only[Zm7]at he|- <;>try exact he
 split at he;rename_i hm;rw[j.map hm];exact he;cases he
def ZmF (j:Sub H Hs) {t:TypeId} {x k p:PV} {ok:Bool} (he:Zec P H t x k ok=some p):Zec P Hs t x k ok=some p:=by
 unfold Zec at he|-;obtain⟨e,C,he⟩:=Zai he;obtain⟨key,I,he⟩:=Zai he;cases hd:Zfy key e.1 with
 |false=>rw[hd]at he;cases he
 |true=>
 rw[hd,cond_true]at he;obtain⟨es,J,he⟩:=Zai he;simp only[C,I,hd,cond_true,ZtU j J,Xaa];exact he
def Zmn (j:Sub H Hs) {b:Builtin} {ts:Array TypeId} {vs:List PV} {p:PV} (he:ZbN P H b ts vs=some p):ZbN P Hs b ts vs=some p:=by unfold ZbN at he|-;split at he;obtain⟨t,C,he⟩:=Zai he;simp only[C,Xaa];exact Zt6 j he;exact he;exact he;cases he
def ZhN {α β:Type} {f g:α->Option β}: ∀ {l:List α} {r:List β},(∀x∈l,∀b,f x=some b->g x=some b)->Za4 f l=some r->Za4 g l=some r
 | [],r,_,h=>h
 |x::l,r,j,h=>by obtain⟨b,s,C,I,rfl⟩:=ZaF h;rw[ZhK,j x Xai b C];simp only[Xaa];rw[ZhN (λy J=>j y (Xaj _ J)) I];rfl
def Zc9 {α β:Type} {f g:α->List β}: ∀ {l:List α},(∀x∈l,f x=g x)->l.flatMap f=l.flatMap g
 | [],_=>rfl
 |x::l,h=>by rw[Xa7,Xa7,h x Xai,Zc9 λy j=>h y (Xaj _ j)]
def Zek {α β:Type} {f:α->Option β}: ∀ {l:List α} {r:List β},Za4 f l=some r-> ∀x∈l,∃b,f x=some b
 | [],r,_,x,hx=>by simp at hx
 |y::l,r,h,x,hx=>by obtain⟨b,s,j,C,rfl⟩:=ZaF h;rcases Xau.1 hx with rfl|hx;exact⟨b,j⟩;exact Zek C x hx
def ZnX (hs:Sub H Hs): ∀ (n:Nat) (v q:PV),exp n H v=some q->exp n Hs v=some q/\rch n Hs v=rch n H v
 |0,v,q,h=>by simp[exp]at h
 |n+1,v,q,h=>by
  have ih:=ZnX hs n;have j: ∀ (l r:List PV),Za4 (exp n H) l=some r->Za4 (exp n Hs) l=some r/\l.flatMap (rch n Hs)=l.flatMap (rch n H):=by intro l r hl;refine⟨ZhN (λx _ b J=>(ih x b J).1) hl,Zc9 λx hx=> ?_⟩;obtain⟨b,J⟩:=Zek hl x hx;exact(ih x b J).2
  cases v with|ref id i l room=>simp only[exp,rch]at h|-;split at h;(·rename_i es z m hm;obtain⟨m',I⟩:=hs.row hm;obtain⟨hle,h⟩:=Zak h;cases he:Za4 (Za4 (exp n H)) ((es.drop i).take l)with|none=>simp[he]at h|some qs=>have R:Za4 (Za4 (exp n Hs)) ((es.drop i).take l)=some qs:=ZhN (λx _ b J=>(j x b J).1) he;refine⟨by simp only[I,if_pos hle,R];rw[he]at h;exact h, ?_⟩;simp only[I,hm];congr 1;exact Zc9 λx hx=>by obtain⟨b,J⟩:=Zek he x hx;exact(j x b J).2);cases h|ptr id i r=>simp only[exp,rch]at h|-;split at h;rename_i es z m hm;obtain⟨m',I⟩:=hs.row hm;obtain⟨c,hc,h⟩:=Zai h;(cases he:Za4 (exp n H) c with|none=>simp[he]at h|some qs=>obtain⟨R,C⟩:=j c qs he;refine⟨by simp only[I,hc,Xaa,R];rw[he]at h;exact h, ?_⟩;simp only[I,hm,hc,XbH,C]);cases h|func f a c=>(simp only[exp,rch]at h|-;obtain⟨a',R,h⟩:=Zai h;cases C:Za4 (exp n H) c with|none=>simp[C]at h|some U=>obtain⟨h3,h4⟩:=j a a' R;obtain⟨h5,h6⟩:=j c U C;exact⟨by rw[h3,h5];rw[C]at h;exact h,by rw[h4,h6]⟩)|agg cs=>(simp only[exp,rch]at h|-;cases C:Za4 (exp n H) cs with|none=>simp[C]at h|some U=>obtain⟨h5,h6⟩:=j cs U C;exact⟨by rw[h5];rw[C]at h;exact h,h6⟩)|tup cs=>(simp only[exp,rch]at h|-;cases C:Za4 (exp n H) cs with|none=>simp[C]at h|some U=>obtain⟨h5,h6⟩:=j cs U C;exact⟨by rw[h5];rw[C]at h;exact h,h6⟩)|map id=>simp[exp]at h|_=>exact⟨by simpa only[exp]using h,rfl⟩
def ZlN (I:Sub H Hs) {f:FuncId} {args:List PV} {base:Nat} {r:PV×List Mem×List Nat} (j:Zhv h E f args H base=some r):Zhv h E f args Hs base=some r:=by
 unfold Zhv at j|-;obtain⟨qs,J,j⟩:=Zai j;have R:Za4 (exp ZaP Hs) args=some qs:=ZhN (λx _ b C=>(ZnX I _ x b C).1) J;have U:args.flatMap (rch ZaP Hs)=args.flatMap (rch ZaP H):=Zc9 λx hx=>by obtain⟨b,C⟩:=Zek J x hx;exact(ZnX I _ x b C).2
 rw[R,Xaa];unfold ZCu ZqL at j|-;rw[U];exact j
def Zgp {x y:Option PV} (j: ∀p,x=some p->y=some p) {r:PV×List Mem×List Nat} (C:val x=some r):val y=some r:=by cases x with|none=>simp[val]at C|some p=>rw[j p rfl];exact C
def Zsz (J:Sub H Hs) {base:Nat} {ρ:Operand->Option PV} {o:Oper} {r:PV×List Mem×List Nat} (j:opR P h E H base ρ o=some r):opR P h E Hs base ρ o=some r:=by
 unfold opR at j|-;cases U:o.op<;>simp only[U]at j|- <;>try exact j
 exact Zgp (λp hp=>by unfold Zlg at hp|-;obtain⟨q,C,I⟩:=Zai hp;simp only[C,Xaa];exact ZqM J I) j;exact Zgp (λp hp=>by unfold ZwD at hp|-;obtain⟨q,C,I⟩:=Zai hp;simp only[C,Xaa];exact ZpU J I) j;exact Zgp (λp hp=>by unfold Zcg at hp|-;obtain⟨q,C,hp⟩:=Zai hp;obtain⟨l,I,hp⟩:=Zai hp;obtain⟨k,R,hp⟩:=Zai hp;obtain⟨m,h4,hp⟩:=Zai hp;simp only[C,I,R,h4,Xaa];exact Zo2 J hp) j;exact Zgp (λp hp=>by unfold Za5 at hp|-;obtain⟨q,r,C,I,R⟩:=Zp6 hp;simp only[C,I,Xaa];exact Zjs J R) j;exact Zgp (λp hp=>by unfold Zg0 at hp|-;obtain⟨q,r,C,I,R⟩:=Zp6 hp;simp only[C,I,Xaa];exact ZmF J R) j;rename_i c;unfold Zjb at j|-;cases hc:c.callee with|builtin b=>simp only[hc]at j|-;exact Zgp (λp hp=>by unfold Zcq at hp|-;obtain⟨q,C,I⟩:=Zai hp;simp only[C,Xaa];exact Zmn J I) j|value x=>(cases x<;>simp only[hc]at j|- <;>try exact j);unfold ZfM at j|-;obtain⟨hn,j⟩:=Zkm j;rw[if_neg hn];obtain⟨vs,C,I⟩:=Zai j;simp only[C,Xaa];exact ZlN J I|invoke _ _=>simp only[hc]at j;cases j
def ZdC: ∀ (ids:List Nat) (H:List Mem),∀ (j:Nat) (m:Mem),H[j]? =some m-> ∃C,(freeze ids H)[j]? =some C/\simM m C
 | [],H,j,m,h=>⟨m,h,simM.refl m⟩
 |i::ids,H,j,m,h=>by
  show ∃C,(freeze ids (freeze1 H i))[j]? =some C/\simM m C
  rcases ZaV H i j with I|⟨rfl,es,z,b,I,R⟩;exact ZdC ids (freeze1 H i) j m (by rw[I];exact h);obtain⟨C,U,J⟩:=ZdC ids (freeze1 H i) i _ R;rw[h]at I;cases I;refine⟨C,U, ?_⟩;cases C<;>simp[simM]at J|-;exact J
def Zgo: ∀ (ids:List Nat) (H:List Mem) (j:Nat) (es:List (List PV)) (z:Nat) (m:Bool),(freeze ids H)[j]? =some (.row es z m)-> ∃C,H[j]? =some (.row es z C)
 | [],H,j,es,z,m,h=>⟨m,h⟩
 |i::ids,H,j,es,z,m,h=>by obtain⟨C,I⟩:=Zgo ids (freeze1 H i) j es z m h;rcases ZaV H i j with J|⟨rfl,es',z',b,J,R⟩;exact⟨C,by rw[<-J];exact I⟩;rw[R]at I;cases I;exact⟨b,J⟩
def Sub.freeze (ids:List Nat) (H ms:List Mem):Sub H (freeze ids H++ms):=by intro j m h;obtain⟨I,C,J⟩:=ZdC ids H j m h;exact⟨I,by rw[Xam (Xae.1 C).1];exact C,J⟩
def ZrO (H:List Mem) (x:Option PV):Zcm H x=ZeI H (val x):=by cases x<;>simp[Zcm,ZeI,val,freeze]
def Zup {ρ:Operand->Option PV} {o:Oper} (hw:isW h o=false):opA P h E H ρ o=ZeI H (opR P h E H H.length ρ o):=by
 unfold isW at hw;unfold opA opR;cases j:o.op<;>simp only[j,ZrO]at hw|- <;>try (first|rfl|(simp at hw;done))
 rename_i c;unfold ZGS at hw;unfold Zh7 Zjb;cases C:c.callee with|builtin b=>(cases b<;>simp only[C,ZrO]at hw|- <;>first|rfl|(simp at hw;done))|value x=>(cases x<;>simp only[C]at hw|- <;>try (simp at hw;done));unfold ZfM;rw[if_neg (by simp[hw]),if_neg (by simp[hw])]|invoke _ _=>simp[C]at hw
def Zv6 {ρ:Operand->Option PV} {o:Oper} (hw:isW h o=true):opA P h E H ρ o=opW P h E H ρ o:=by
 unfold isW at hw;unfold opA opW;cases j:o.op<;>simp only[j]at hw|- <;>try (first|rfl|(simp at hw;done))
 rename_i c;unfold ZGS at hw;unfold Zh7 ZuS;cases C:c.callee with|builtin b=>(cases b<;>simp only[C]at hw|- <;>first|rfl|(simp at hw;done))|value x=>cases x<;>simp only[C]at hw|-;rw[if_pos (by simpa using hw)]|invoke _ _=>rfl
end
variable [Laid]
section
variable {P:Program} {h:Hints} {E:Ev} {w:World} {φ:Phi} {S:Nat->Prop} {B:Nat} {H H':List Mem} {tm:List (Nat × PV)} {N:Nat} {o:Oper} {a:Act} {K:Act->World->Prop} {Q:Exit->Act->World->Prop}
def Zok {H':List Mem} (C:Inv φ H w S B) (hlen:H'.length=H.length) (ms:List Mem):ZCZ (H'++ms) φ H.length ms:=by intro j m hm;refine⟨m, ?_, .inl rfl, ?_⟩;rw[Xaz (by omega),hlen];rw[show H.length+j-H.length=j from by omega];exact hm;cases I:φ (H.length+j)with|none=>rfl|some l=>have:=(C.live _ l I).2.2;omega
def Zhh (hG:Good P h E) (J:Inv φ H w S B) {f:FuncId} {args:List PV} {vals:List Value} {v:PV} (C:ZcZ h E f args H=some (v,H')) (hv:VL φ w S args vals):
 ZBi P f/\Calls P f vals.toArray w (ZDD H' H.length B φ S w v):=by unfold ZcZ at C;by_cases ho:h.opn f=true;rw[if_pos ho]at C;exact⟨hG.fnOk f (.inl ⟨_,_,_,C⟩),hG.rn f args H v H' C φ S w B vals J hv⟩;rw[if_neg ho]at C;cases R:Zhv h E f args H H.length with|none=>simp[R]at C|some x=>obtain⟨q,ms,fz⟩:=x;simp only[R,Xal,Xaf,Prod.mk.injEq]at C;obtain⟨rfl,rfl⟩:=C;obtain⟨S1,h1,h2,h3⟩:=J.freeze fz;have hlen:=ZaW fz H;have U:Inv φ (freeze fz H++ms) w S1 B:=h1.reheap (λj l hj=> .inl (by rw[Xam (h1.live j l hj).2.2])) (by simp);have aa:=ZlN (Sub.freeze fz H ms) R;have ab:VL φ w S1 args vals:=hv.evo h2 J (Xag _);have I:=ZjR hG.rn hG.prim U aa ab (Zok J hlen ms) (λid hid l es z m hl hm=>by have ae:=(J.live id l hl).2.2;rw[Xam (by omega)]at hm;obtain⟨m',ad⟩:=Zgo fz H id es z m hm;exact h3 id hid l es z m' hl ad);refine⟨ZrV hG R,I.mono ?_⟩;rintro e w' ⟨u,φ',S2,rfl,h4,h5,h6,_⟩;exact⟨u,φ',S2,rfl,h4,h2.trans (h5.mono (by simp[hlen])),h6⟩
def ZeL:VRel φ w S (.tup []) undef:=by simp only[VRel,VL];exact⟨#[],rfl,rfl⟩
def ZhJ {ts:Array TypeId} {ty:TypeId} {s x v:PV} {sv J:Value} {H':List Mem} (R:Inv φ H w S B) (j:Zeu P h H ts s x=some (v,H')) (hs:VRel φ w S s sv) (hx:VRel φ w S x J):
 ∃u w' φ' S',(Builtin.append_ ts ty #[sv,J]).run P w= .ok u w'/\Inv φ' H' w' S' B/\Evo H.length B φ S w φ' S' w'/\VRel φ' w' S' v u/\ ∀i,i<H.length->φ' i=φ i:=by unfold Zeu at j;cases hf:frzT h ts with|false=>rw[hf,cond_false]at j;exact ZhB R j hs hx|true=>rw[hf,cond_true]at j;obtain⟨x',h1,h2⟩:=Zai j;obtain⟨S1,h3,U,h5⟩:=R.freeze (rch ZaP H x);have h6:=(ZfX R (rch ZaP H x) ZaP x x' J h1 hx (λ_ hid=>hid)).1;have h7:IRel w S1 x' J:=IRel.mono (λb hb=>⟨by rcases hb with hb|⟨id,hid,l,hl,rfl⟩;exact(U.st b hb).1;obtain⟨es,z,m,C⟩:=Zc4 _ _ _ hid;exact h5 id hid l es z m hl C,rfl⟩) _ _ h6;obtain⟨u,w',φ',S',h8,h9,I,aa,ab⟩:=ZhB (P:=P) (ty:=ty) h3 h2 (VRel.mono (λ_ _ hl=>hl) U.st _ _ hs) (IRel.toV _ _ h7);rw[ZaW]at I;exact⟨u,w',φ',S',h8,h9,U.trans I,aa,λi hi=>ab i (by rw[ZaW];exact hi)⟩
def ZGz (hG:Good P h E) {v:PV} (hI:Inv φ H w S B) (ht:TRel φ w S N tm a) (j:opW P h E H (ev tm) o=some (v,H'))
 (hK: ∀u w' φ' S',Inv φ' H' w' S' B->Evo H.length B φ S w φ' S' w'->VRel φ' w' S' v u->K (a.put o.dst u) w'):o.wp P a w K Q:=by
 have ab: ∀c:Call,c.args.map a.eval=(c.args.toList.map a.eval).toArray:=λc=>by rw[<-Array.toList_map,Array.toArray_toList]
 unfold opW at j;cases ho:o.op with
 |store t x y=>simp only[ho,Zfq]at j;obtain⟨p,C,g1⟩:=Zai j;obtain⟨q,h2,g2⟩:=Zai g1;obtain⟨J,hn⟩:=Zf8 h2;cases hs:Zdc P H t p q with|none=>simp[hs]at g2|some H2=>simp only[hs,Xal,Xaf,Prod.mk.injEq]at g2;obtain⟨rfl,rfl⟩:=g2;obtain⟨w',R,U,h6⟩:=Zjm (P:=P) hI hs (Zaw ht C) (Zaw ht J) hn;exact Zf4 (by simp[execOp,ho,R]) (hK _ w' φ S U h6 ZeL)
 |mapUpdate t m k x=>simp only[ho]at j;have I:=j;unfold ZpQ at I;obtain⟨e,he,g1⟩:=Zai I;obtain⟨mv,C,g2⟩:=Zai g1;obtain⟨kv,h2,g3⟩:=Zai g2;obtain⟨xv,J,g4⟩:=Zai g3;rw[C,h2,J]at j;obtain⟨w',R,rfl,U,h6⟩:=ZlB hI j (Zaw ht C) (Zaw ht h2) (Zaw ht J);exact Zf4 (by simp[execOp,ho,R]) (hK _ w' φ S U h6 ZeL)
 |insert t m k x=>simp only[ho]at j;have I:=j;unfold ZpQ at I;obtain⟨e,he,g1⟩:=Zai I;obtain⟨mv,C,g2⟩:=Zai g1;obtain⟨kv,h2,g3⟩:=Zai g2;obtain⟨xv,J,g4⟩:=Zai g3;rw[C,h2,J]at j;obtain⟨w',R,rfl,U,h6⟩:=ZlB hI j (Zaw ht C) (Zaw ht h2) (Zaw ht J);exact Zf4 (by simp[execOp,ho,R]) (hK _ w' φ S U h6 ZeL)
 |call c=>
  simp only[ho,ZuS]at j;cases hc:c.callee with
  |builtin b=>
   simp only[hc,Zhz]at j;have two: ∀ {vs:List PV} {s x:PV},Za4 (ev tm) c.args.toList=some vs->vs=[s,x]-> ∃sv xv,c.args.toList.map a.eval=[sv,xv]/\VRel φ w S s sv/\VRel φ w S x xv:=by intro vs s x C h2;subst h2;have hv:=Zcp ht C;simp only[VL]at hv;obtain⟨sv,r,e1,J,xv,r2,rfl,R,rfl⟩:=hv;exact⟨sv,xv,e1,J,R⟩
   (cases b<;>simp only[]at j<;>try (cases j;done));unfold Zet at j;obtain⟨vs,C,g1⟩:=Zai j;split at g1;rename_i s x;obtain⟨sv,xv,e1,J,R⟩:=two C rfl;obtain⟨u,w',φ',S',U,h6,h7,h8,_⟩:=ZhJ (P:=P) (h:=h) (ty:=o.type) hI g1 J R;refine Zda ?_ (hK u w' φ' S' h6 h7 h8);simp only[execOp,ho,resolve,hc,Sem.run_bind,Sem.run_pure,Result.andThen_ok,invoke,builtin,ab,e1];rw[show([sv,xv]:List Value).toArray= #[sv,xv]from rfl,U];rfl;cases g1;unfold ZkU at j;obtain⟨vs,C,g1⟩:=Zai j;split at g1;rename_i s;have hv:=Zcp ht C;simp only[VL]at hv;obtain⟨sv,r,e1,J,rfl⟩:=hv;obtain⟨u,w',U,h6,h7,h8⟩:=Zpu (P:=P) (ty:=o.type) hI g1 J;refine Zda ?_ (hK u w' φ S h6 h7 h8);simp only[execOp,ho,resolve,hc,Sem.run_bind,Sem.run_pure,Result.andThen_ok,invoke,builtin,ab,e1];rw[show([sv]:List Value).toArray= #[sv]from rfl,U];rfl;cases g1;unfold Zqg at j;obtain⟨vs,C,g1⟩:=Zai j;split at g1;rename_i s x;obtain⟨sv,xv,e1,J,R⟩:=two C rfl;obtain⟨u,w',U,h6,h7,h8⟩:=Zqv (P:=P) (ty:=o.type) hI g1 J R;refine Zda ?_ (hK u w' φ S h6 h7 h8);simp only[execOp,ho,resolve,hc,Sem.run_bind,Sem.run_pure,Result.andThen_ok,invoke,builtin,ab,e1];rw[show([sv,xv]:List Value).toArray= #[sv,xv]from rfl,U];rfl;cases g1
  |value x=>have dyn:ZuX h E H (ev tm) x c=some (v,H')->o.wp P a w K Q:=(by intro hd;unfold ZuX at hd;obtain⟨fv,C,g1⟩:=Zai hd;split at g1;(·(rename_i f first ah);obtain⟨vs,h2,g2⟩:=Zai g1;have hf:=Zaw ht C;simp only[VRel]at hf;obtain⟨fs,cs,ae,af,ag⟩:=hf;obtain⟨ad,aa⟩:=Zhh hG hI g2 (VL.append (VL.append af (Zcp ht h2)) ag);refine ZgP (f:=f) (args:=(fs.toList++c.args.toList.map a.eval++cs.toList).toArray) ?_ (aa.mono ?_);(·simp only[execOp,ho,resolve,hc,ae,Deferred.ofValue,Sem.run_bind,Sem.run_pure,Result.andThen_ok,invoke,ZfT ad];congr 2;apply Array.ext';simp);rintro e w' ⟨u,φ',S',rfl,R,U,h6⟩;exact⟨u,rfl,hK u w' φ' S' R U h6⟩);cases g1);cases x with|func f=>simp only[hc]at j;unfold Zob at j;obtain⟨vs,h2,g2⟩:=Zai j;obtain⟨ad,aa⟩:=Zhh hG hI g2 (Zcp ht h2);refine ZgP (f:=f) (args:=(c.args.toList.map a.eval).toArray) ?_ (aa.mono ?_);(·simp only[execOp,ho,resolve,hc,Act.eval,Deferred.ofValue,Sem.run_bind,Sem.run_pure,Result.andThen_ok,invoke,ZfT ad];congr 2;apply Array.ext';simp);rintro e w' ⟨u,φ',S',rfl,R,U,h6⟩;exact⟨u,rfl,hK u w' φ' S' R U h6⟩|_=>simp only[hc]at j;exact dyn j
  |invoke _ _=>simp[hc]at j
 |_=>simp[ho]at j
def ZH8 (φ:Phi) (H:List Mem) (φ':Phi) (H':List Mem):Prop:= ∀id,id<H.length->φ id=none->φ' id=none/\ ∀m,H[id]? =some m->H'[id]? =some m\/ ∃es z b,m= .row es z b/\H'[id]? =some (.row es z false)
def ZuB {z by_:Nat} {s v:PV} {new:List (List PV)} {sv:Value} (C:Zbz H z by_ s new=some (v,H')) (R:VRel φ w S s sv) {k:Nat} (hk:φ k=none) {m:Mem} (hm:H[k]? =some m):H'[k]? =some m:=by
 have I:=(Xae.1 hm).1;unfold Zbz at C;split at C;split at C;cases C;exact hm;obtain⟨_,C⟩:=Zak C;cases C;rw[Xam I];exact hm;rename_i id j n room;simp only[VRel]at R;obtain⟨l,_,_,U,_⟩:=R;have J:id≠k:=by rintro rfl;rw[hk]at U;cases U
 split at C;obtain⟨_,C⟩:=Zak C;split at C;cases C;exact hm;split at C;obtain⟨_,C⟩:=Zak C;cases C;rw[XaD J];exact hm;obtain⟨_,C⟩:=Zak C;cases C;rw[Xam (by simpa using I),XaD J];exact hm;cases C;cases hc:(new.isEmpty|| !Zdd _ z)with|true=>rw[hc]at C;cases C|false=>rw[hc,cond_false]at C;obtain⟨_,C⟩:=Zak C;cases C;rw[Xam I];exact hm
 cases C
def Zrg (ids:List Nat) (H:List Mem) {k:Nat} {m:Mem} (hm:H[k]? =some m):(freeze ids H)[k]? =some m\/ ∃es z b,m= .row es z b/\(freeze ids H)[k]? =some (.row es z false):=by induction ids generalizing H m with|nil=>exact .inl hm|cons i ids C=>show(freeze ids (freeze1 H i))[k]? =some m\/_;rcases ZaV H i k with h|⟨rfl,es,z,b,I,J⟩;exact C (freeze1 H i) (by rw[h];exact hm);rw[hm]at I;cases I;right;rcases C (freeze1 H i) J with j|⟨es',z',U,R,j⟩;exact⟨es,z,b,rfl,j⟩;cases R;exact⟨es,z,b,rfl,j⟩
def Zuo {ts:Array TypeId} {s x v:PV} {U:Value} (j:Zeu P h H ts s x=some (v,H')) (hs:VRel φ w S s U) {k:Nat} (hk:φ k=none) {m:Mem} (hm:H[k]? =some m):H'[k]? =some m\/ ∃es z b,m= .row es z b/\H'[k]? =some (.row es z false):=by
 have key: ∀ {H1:List Mem} {J:PV},Zc5 P H1 ts s J=some (v,H')-> ∀m1,H1[k]? =some m1->H'[k]? =some m1:=by intro H1 J j m1 C;unfold Zc5 at j;obtain⟨t,_,j⟩:=Zai j;obtain⟨e,_,j⟩:=Zai j;obtain⟨z,_,j⟩:=Zai j;obtain⟨by_,_,j⟩:=Zai j;obtain⟨zero,_,j⟩:=Zai j;obtain⟨new,_,j⟩:=Zai j;obtain⟨_,j⟩:=Zak j;exact ZuB j hs hk C
 unfold Zeu at j;cases hf:frzT h ts with|false=>rw[hf,cond_false]at j;exact .inl (key j m hm)|true=>rw[hf,cond_true]at j;obtain⟨x',_,R⟩:=Zai j;rcases Zrg (rch ZaP H x) H hm with I|⟨es,z,b,rfl,I⟩;exact .inl (key R m I);exact .inr ⟨es,z,b,rfl,key R _ I⟩
def ZEw (hG:Good P h E) {v:PV} (C:ZgU o=true) (hI:Inv φ H w S B) (ht:TRel φ w S N tm a) (j:opW P h E H (ev tm) o=some (v,H'))
 (hK: ∀u w' φ' S',Inv φ' H' w' S' B->Evo H.length B φ S w φ' S' w'->VRel φ' w' S' v u->ZH8 φ H φ' H'->K (a.put o.dst u) w'):o.wp P a w K Q:=by
 have U: ∀c:Call,c.args.map a.eval=(c.args.toList.map a.eval).toArray:=λc=>by rw[<-Array.toList_map,Array.toArray_toList]
 unfold ZgU at C;unfold opW at j;cases R:o.op with|store t x y=>(simp only[R,Zfq]at j;obtain⟨p,h1,g1⟩:=Zai j;obtain⟨q,h2,g2⟩:=Zai g1;obtain⟨h3,hn⟩:=Zf8 h2;cases I:Zdc P H t p q with|none=>simp[I]at g2|some H2=>simp only[I,Xal,Xaf,Prod.mk.injEq]at g2;obtain⟨rfl,rfl⟩:=g2;have hp:=Zaw ht h1;obtain⟨w',h4,h5,h6⟩:=Zjm (P:=P) hI I hp (Zaw ht h3) hn;refine Zf4 (by simp[execOp,R,h4]) (hK _ w' φ S h5 h6 ZeL λid hid J=>⟨J,λm hm=> .inl ?_⟩);unfold Zdc at I;split at I;rename_i aa i r;simp only[VRel]at hp;have ab:aa≠id:=(by rintro rfl;obtain⟨l,hl,_⟩:=hp;rw[J]at hl;cases hl);split at I;obtain⟨c,_,I⟩:=Zai I;obtain⟨n,_,I⟩:=Zai I;obtain⟨_,I⟩:=Zak I;cases I;rw[XaD ab];exact hm;cases I;cases I)|call c=>(simp only[R]at C;simp only[R,ZuS]at j;cases hc:c.callee with|builtin b=>simp only[hc]at C;simp only[hc,Zhz]at j;(cases b<;>simp only[]at j C<;>try (first|(cases j;done)|(cases C;done)));unfold Zet at j;obtain⟨vs,h1,g1⟩:=Zai j;split at g1;rename_i s x;have hv:=Zcp ht h1;simp only[VL]at hv;obtain⟨sv,r,e1,h3,xv,r2,rfl,h4,rfl⟩:=hv;obtain⟨u,w',φ',S',h5,h6,h7,h8,h9⟩:=ZhJ (P:=P) (h:=h) (ty:=o.type) hI g1 h3 h4;refine Zda ?_ (hK u w' φ' S' h6 h7 h8 λid hid J=>⟨by rw[h9 id hid];exact J,λm hm=>Zuo g1 h3 J hm⟩);simp only[execOp,R,resolve,hc,Sem.run_bind,Sem.run_pure,Result.andThen_ok,invoke,builtin,U,e1];rw[show([sv,xv]:List Value).toArray= #[sv,xv]from rfl,h5];rfl;cases g1|_=>simp[hc]at C)|_=>simp[R]at C
def ZBq (hG:Good P h E) {v:PV} (I:Inv φ H w S B) (J:TRel φ w S N tm a) (C:opA P h E H (ev tm) o=some (v,H'))
 (hK: ∀u w' φ' S',Inv φ' H' w' S' B->Evo H.length B φ S w φ' S' w'->VRel φ' w' S' v u->K (a.put o.dst u) w'):o.wp P a w K Q:=by cases hw:isW h o with|true=>rw[Zv6 hw]at C;exact ZGz hG I J C hK|false=>rw[Zup hw]at C;unfold ZeI at C;cases R:opR P h E H H.length (ev tm) o with|none=>simp[R]at C|some x=>obtain⟨q,ms,fz⟩:=x;simp only[R,Xal,Xaf,Prod.mk.injEq]at C;obtain⟨rfl,rfl⟩:=C;obtain⟨S1,h1,h2,h3⟩:=I.freeze fz;have hlen:=ZaW fz H;have U:Inv φ (freeze fz H++ms) w S1 B:=h1.reheap (λj l hj=> .inl (by rw[Xam (h1.live j l hj).2.2])) (by simp);have aa:TRel φ w S1 N tm a:=⟨J.1,J.2.1,λi p hp=>⟨(J.2.2 i p hp).1,(J.2.2 i p hp).2.evo h2 I (Xag _)⟩⟩;refine Zvn hG U aa (Zsz (Sub.freeze fz H ms) R) ?_ ?_ ?_;exact Zok I hlen ms;intro id hid l es z m hl hm;have ad:=(I.live id l hl).2.2;rw[Xam (by omega)]at hm;obtain⟨m',ab⟩:=Zgo fz H id es z m hm;exact h3 id hid l es z m' hl ab;intro u w' φ' S' h4 h5 h6 _;exact hK u w' φ' S' h4 (h2.trans (h5.mono (by simp[hlen]))) h6
def Ziu {dst:Option Tmp} {v:PV} {u:Value} {tm':List (Nat×PV)} (hp:Zf2 N dst v tm=some tm') (j:TRel φ w S N tm a) (C:VRel φ w S v u):TRel φ w S N tm' (a.put dst u):=by unfold Zf2 at hp;cases dst with|none=>simp at hp;subst hp;exact j|some d=>simp only[]at hp;obtain⟨hd,hp⟩:=Zak hp;cases hp;refine⟨by simp[Act.put,j.1],j.2.1, ?_⟩;intro i p hi;rw[Zcu]at hi;by_cases hid:i=d;subst hid;rw[if_pos rfl]at hi;cases hi;refine⟨hd, ?_⟩;have:i<a.tmps.size:=(by rw[j.1];exact hd);simpa[Act.put,this]using C;rw[if_neg hid]at hi;obtain⟨I,J⟩:=j.2.2 i p hi;refine⟨I, ?_⟩;have:(a.put (some d) u).tmps.getD i undef=a.tmps.getD i undef:=(by simp[Act.put,Array.getElem?_setIfInBounds_ne (λe=>hid e.symm)]);rw[this];exact J
def TRel.evo {k:Nat} {φ':Phi} {S':Nat->Prop} {w':World} (j:TRel φ w S N tm a) (he:Evo k B φ S w φ' S' w') (C:Inv φ H w S B) (I:H.length<=k):TRel φ' w' S' N tm a:=
 ⟨j.1,j.2.1,λi p hp=>⟨(j.2.2 i p hp).1,(j.2.2 i p hp).2.evo he C I⟩⟩
def Zrt {t:Nat} (j:TRel φ w S N tm a) {p:PV} (hp:get tm t=some p):a.tmps[t]? =some (a.tmps.getD t undef):=by have:=(j.2.2 t p hp).1;rw[<-j.1]at this;simp[this]
def Ze8 {ops:Array Oper} {b:Bool} (hw:Zeq ops tm o=some b) (J:TRel φ w S N tm a):Region.wanted o (yielded ops a.tmps)=b:=by unfold Zeq at hw;unfold Region.wanted;cases U:o.guard with|none=>simp[U]at hw|-;exact hw|some jw=>obtain⟨j,want⟩:=jw;simp only[U]at hw|-;unfold yielded;cases hd:(ops[j]?).bind (·.dst)with|none=>simp[hd]at hw|some d=>simp only[hd,Xaa]at hw|-;split at hw;rename_i c C;cases hw;have R:=Zrt J C;have I:=(J.2.2 d _ C).2;simp only[VRel]at I;rw[R,I];cases c<;>cases want<;>rfl;rename_i C;cases hw;have R:=Zrt J C;have I:=(J.2.2 d _ C).2;simp only[VRel,VL]at I;obtain⟨arr,h3,h4⟩:=I;have:arr= #[]:=(by apply Array.ext';simpa using h4);subst this;rw[R,h3];rfl;cases hw
def ZwN (hG:Good P h E) {ops:Array Oper} {i:Nat} (hi:ops[i]? =some o) {s J:St} (j:Zdr P h E N ops o s=some J) (R:Inv φ s.hp w S B) (I:TRel φ w S N s.tm a)
 (U: ∀a' w' φ' S',Inv φ' J.hp w' S' B->Evo s.hp.length B φ S w φ' S' w'->TRel φ' w' S' N J.tm a'->K a' w'):wpOp P ops Q i K a w:=by unfold Zdr at j;obtain⟨b,hb,j⟩:=Zai j;have C:=Ze8 hb I;unfold wpOp;simp only[hi,C];cases b with|true=>(simp only[cond_true]at j;obtain⟨x,hx,j⟩:=Zai j;obtain⟨v,H'⟩:=x;cases hp:Zf2 N o.dst v s.tm with|none=>simp[hp]at j|some tm'=>simp only[hp,Xal,Xaf]at j;subst j;simp only[if_true];left;refine ZBq hG R I hx ?_;intro u w' φ' S' h1 h2 h3;exact U _ w' φ' S' h1 h2 (Ziu hp (I.evo h2 R (Xag _)) h3))|false=>simp only[cond_false]at j;cases hp:Zf2 N o.dst (.tup []) s.tm with|none=>simp[hp]at j|some tm'=>simp only[hp,Xal,Xaf]at j;subst j;simp only[XaO,if_false];exact U _ w φ S R (Evo.refl _ _ _ _ _) (Ziu hp I ZeL)
def ZuP {t:TypeId} {x y:PV} (j:Zdc P H t x y=some H'):H'.length=H.length:=by unfold Zdc at j;split at j;split at j;obtain⟨c,_,j⟩:=Zai j;obtain⟨n,_,j⟩:=Zai j;obtain⟨_,j⟩:=Zak j;cases j;simp;cases j;cases j
def Zp0 {z by_:Nat} {s v:PV} {new:List (List PV)} (j:Zbz H z by_ s new=some (v,H')):H.length<=H'.length:=by
 unfold Zbz at j;split at j;split at j;cases j;exact Xag _;obtain⟨_,j⟩:=Zak j;cases j;simp;split at j;obtain⟨_,j⟩:=Zak j;split at j;cases j;exact Xag _;split at j;obtain⟨_,j⟩:=Zak j;cases j;simp;obtain⟨_,j⟩:=Zak j;cases j;simp;cases j;cases C:(new.isEmpty|| !Zdd _ z)with|true=>rw[C]at j;cases j|false=>rw[C,cond_false]at j;obtain⟨_,j⟩:=Zak j;cases j;simp
 cases j
def ZkQ {ts:Array TypeId} {s x v:PV} (j:Zc5 P H ts s x=some (v,H')):H.length<=H'.length:=by unfold Zc5 at j;obtain⟨t,_,j⟩:=Zai j;obtain⟨e,_,j⟩:=Zai j;obtain⟨z,_,j⟩:=Zai j;obtain⟨b,_,j⟩:=Zai j;obtain⟨zero,_,j⟩:=Zai j;obtain⟨new,_,j⟩:=Zai j;obtain⟨_,j⟩:=Zak j;exact Zp0 j
def Zrl {ts:Array TypeId} {s x v:PV} (j:Zeu P h H ts s x=some (v,H')):H.length<=H'.length:=by unfold Zeu at j;cases hf:frzT h ts with|false=>rw[hf,cond_false]at j;exact ZkQ j|true=>rw[hf,cond_true]at j;obtain⟨I,_,C⟩:=Zai j;have:=ZkQ C;rwa[ZaW]at this
def Zyt {ts:Array TypeId} {s x v:PV} (j:Zqw P H ts s x=some (v,H')):H.length<=H'.length:=by unfold Zqw at j;obtain⟨t,_,j⟩:=Zai j;obtain⟨e,_,j⟩:=Zai j;obtain⟨z,_,j⟩:=Zai j;obtain⟨src,_,j⟩:=Zai j;obtain⟨_,j⟩:=Zak j;split at j;cases j;exact Xag _;split at j;obtain⟨_,j⟩:=Zak j;cases j;simp;cases j;cases j
def Zt8 {ts:Array TypeId} {s v:PV} (j:Zkt P H ts s=some (v,H')):H.length<=H'.length:=by unfold Zkt at j;obtain⟨t,_,j⟩:=Zai j;obtain⟨e,_,j⟩:=Zai j;obtain⟨z,_,j⟩:=Zai j;obtain⟨zero,_,j⟩:=Zai j;obtain⟨_,j⟩:=Zak j;split at j;cases j;exact Xag _;split at j;obtain⟨_,j⟩:=Zak j;cases j;simp;cases j;cases j
def ZtM {t:TypeId} {m k x:Option PV} {v:PV} (j:ZpQ P H t m k x=some (v,H')):H.length<=H'.length:=by
 unfold ZpQ at j;obtain⟨e,_,j⟩:=Zai j;obtain⟨m,_,j⟩:=Zai j;obtain⟨k,_,j⟩:=Zai j;obtain⟨x,_,j⟩:=Zai j;obtain⟨key,_,j⟩:=Zai j;cases hd:Zfy key e.1 with
 |false=>rw[hd]at j;cases j
 |true=>
 rw[hd,cond_true]at j;split at j;split at j;rename_i es _;cases hp:Zdq key x es with|none=>simp[hp]at j|some es'=>simp only[hp,Xal,Xaf,Prod.mk.injEq]at j;obtain⟨_,rfl⟩:=j;simp
 cases j;cases j
def ZsQ {r:Res} {v:PV} (j:ZeI H r=some (v,H')):H.length<=H'.length:=by unfold ZeI at j;cases r with|none=>simp at j|some x=>obtain⟨q,ms,fz⟩:=x;simp only[Xal,Xaf,Prod.mk.injEq]at j;obtain⟨_,rfl⟩:=j;simp[ZaW]
def Zj0 (hG:Good P h E) {f:FuncId} {args:List PV} {v:PV} (j:ZcZ h E f args H=some (v,H')):H.length<=H'.length:=by unfold ZcZ at j;split at j;exact hG.len _ _ _ _ _ j;exact ZsQ j
def ZDc (hG:Good P h E) {ρ:Operand->Option PV} {v:PV} (j:opW P h E H ρ o=some (v,H')):H.length<=H'.length:=by
 unfold opW at j;split at j;rename_i t _ _ _;unfold Zfq at j;obtain⟨p,_,j⟩:=Zai j;obtain⟨q,_,j⟩:=Zai j;cases C:Zdc P H t p q with|none=>simp[C]at j|some H2=>simp only[C,Xal,Xaf,Prod.mk.injEq]at j;obtain⟨_,rfl⟩:=j;rw[ZuP C];exact Xag _
 exact ZtM j;exact ZtM j;unfold ZuS at j;split at j;unfold Zhz at j;split at j;unfold Zet at j;obtain⟨vs,_,j⟩:=Zai j;split at j;exact Zrl j;cases j;unfold Zqg at j;obtain⟨vs,_,j⟩:=Zai j;split at j;exact Zyt j;cases j;unfold ZkU at j;obtain⟨vs,_,j⟩:=Zai j;split at j;exact Zt8 j;cases j;cases j;unfold Zob at j;obtain⟨vs,_,j⟩:=Zai j;exact Zj0 hG j;unfold ZuX at j;obtain⟨I,_,j⟩:=Zai j;split at j;obtain⟨vs,_,j⟩:=Zai j;exact Zj0 hG j;cases j;cases j;cases j
def Zp2 (hG:Good P h E) {ρ:Operand->Option PV} {v:PV} (j:opA P h E H ρ o=some (v,H')):H.length<=H'.length:=by cases hw:isW h o with|true=>rw[Zv6 hw]at j;exact ZDc hG j|false=>rw[Zup hw]at j;exact ZsQ j
def Zt7 (hG:Good P h E) {ops:Array Oper} {s C:St} (j:Zdr P h E N ops o s=some C):s.hp.length<=C.hp.length:=by unfold Zdr at j;obtain⟨b,_,j⟩:=Zai j;cases b with|true=>(simp only[cond_true]at j;obtain⟨⟨v,H'⟩,I,j⟩:=Zai j;cases hp:Zf2 N o.dst v s.tm with|none=>simp[hp]at j|some tm'=>simp only[hp,Xal,Xaf]at j;subst j;exact Zp2 hG I)|false=>simp only[cond_false]at j;cases hp:Zf2 N o.dst (.tup []) s.tm with|none=>simp[hp]at j|some tm'=>simp only[hp,Xal,Xaf]at j;subst j;exact Xag _
def ZlT (hG:Good P h E) {ops:Array Oper} (base:Nat): ∀ (l:List Oper) (i:Nat) (s j:St) (φ:Phi) (S:Nat->Prop) (a:Act) (w:World),ops.toList.drop i=l->Zfi P h E N ops l s=some j->Inv φ s.hp w S B->TRel φ w S N s.tm a->base<=s.hp.length->
 (∀R w' φ' S',Inv φ' j.hp w' S' B->Evo base B φ S w φ' S' w'->TRel φ' w' S' N j.tm R->base<=j.hp.length->Q .normal R w')->wpOps P ops Q ((List.range ops.size).drop i) a w
 | [],i,s,j,φ,S,a,w,I,C,U,ht,hb,hQ=>by have aa:ops.size<=i:=(by have:=List.drop_eq_nil_iff.1 I;simpa using this);rw[List.drop_eq_nil_of_le (by simpa using aa)];cases C;exact hQ a w φ S U (Evo.refl _ _ _ _ _) ht hb
 |o::l,i,s,j,φ,S,a,w,I,C,U,ht,hb,hQ=>by have ab:i<ops.size:=(by rcases Xa5 i ops.size with h|h;exact h;rw[List.drop_eq_nil_of_le (by simpa using h)]at I;cases I);have hi:ops[i]? =some o:=(by have:(ops.toList.drop i)[0]? =some o:=(by rw[I];rfl);rw[XbQ]at this;simpa using this);have ad:ops.toList.drop (i+1)=l:=(by rw[<-Xbm,I];rfl);obtain⟨s1,h1,h2⟩:=Zai (x:=Zdr P h E N ops o s) (f:=λs=>Zfi P h E N ops l s) C;have hr:(List.range ops.size).drop i=i::(List.range ops.size).drop (i+1):=(by rw[XaL (by simpa using ab)];simp);rw[hr,wpOps_cons];refine ZwN hG hi h1 U ht ?_;intro R w' φ' S' h3 h4 h5;have hlen:s.hp.length<=s1.hp.length:=Zt7 hG h1;refine ZlT hG base l (i+1) s1 j φ' S' R w' ad h2 h3 h5 (by omega) ?_;intro ae af J ag h6 h7 h8 h9;exact hQ ae af J ag h6 ((h4.mono hb).trans h7) h8 h9
end
variable [Laid]
def Zr8 (acc:List Nat) (o:Oper):Nat:=
 o.after.toList.foldr (λe s=>bif Region.binds .any e then(s|||2^e.on)|||acc.getD e.on 0 else s) 0
def ZCq:List Oper->List Nat->List Nat
 | [],acc=>acc
 |o::r,acc=>ZCq r (acc++ [Zr8 acc o])
def ZcB (h:Hints) (ls:List Nat):List Oper->Nat->Nat
 | [],i=>i
 |o::r,i=>bif !has i ls&&isW h o then i else ZcB h ls r (i+1)
def ZkI (h:Hints) (ls:List Nat):List Oper->Nat->List Nat
 | [],i=> [i]
 |o::r,i=>match ZkI h ls r (i+1)with
  |n::l=>(bif !has i ls&&isW h o then i else n)::n::l
  | []=> []
def ZBJ (h:Hints) (ls:List Nat) (ops:Array Oper) (C ms:List Nat) (i j:Nat):Bool:=
 Nat.testBit (ms.getD j 0) i||match ops[i]?,ops[j]? with
 |some x,some y=>x.apart ops y&&(has i ls||(has j ls&& !isW h x)||Nat.blt j (C.getD i 0)||(isA x&&(ZgU y|| !isW h y)))
 |_,_=>true
def Zxi (ops:Array Oper) (j:Nat):Bool:=
 match ops[j]? with
 |some o=>o.after.toList.all λe=> !Region.binds .any e||decide (e.on<j)
 |none=>true
def ZhY (h:Hints) (ls:List Nat) (ops:Array Oper):Bool:=
 let ms:=ZCq ops.toList []
 let C:=ZkI h ls ops.toList 0
 (List.range ops.size).all λj=>Zxi ops j&&(List.range j).all λi=>ZBJ h ls ops C ms i j
def ZgF (ops:Array Oper) (D:Nat->Bool):Prop:= ∀j o,ops[j]? =some o->D j=true-> ∀e∈o.after,Region.binds .any e=true->D e.on=true
def Zq2 {acc:List Nat} {o:Oper} {i:Nat}:Nat.testBit (Zr8 acc o) i=true-> ∃e∈o.after,Region.binds .any e=true/\(i=e.on\/Nat.testBit (acc.getD e.on 0) i=true):=by
 unfold Zr8;have gen: ∀l:List Edge,Nat.testBit (l.foldr (λe s=>bif Region.binds .any e then(s|||2^e.on)|||acc.getD e.on 0 else s) 0) i=true-> ∃e∈l,Region.binds .any e=true/\(i=e.on\/Nat.testBit (acc.getD e.on 0) i=true):=by intro l;induction l with|nil=>intro h;simp at h|cons e l R=>intro h;rw[List.foldr_cons]at h;cases I:Region.binds .any e with|false=>rw[I]at h;obtain⟨J,j,C⟩:=R h;exact⟨J,Xaj _ j,C⟩|true=>rw[I,cond_true,Nat.testBit_or,Nat.testBit_or]at h;simp only[Xb2]at h;rcases h with(h|h)|h;obtain⟨J,j,C⟩:=R h;exact⟨J,Xaj _ j,C⟩;rw[Nat.testBit_two_pow]at h;exact⟨e,Xai,I, .inl (by simpa using(of_decide_eq_true h).symm)⟩;exact⟨e,Xai,I, .inr h⟩
 intro h;obtain⟨e,j,C⟩:=gen _ h;exact⟨e,by simpa using j,C⟩
def Zja {ops:Array Oper} {D:Nat->Bool} (hD:ZgF ops D): ∀ (l:List Oper) (acc:List Nat),ops.toList.drop acc.length=l->
 (∀j i,D j=true->Nat.testBit (acc.getD j 0) i=true->D i=true)-> ∀j i,D j=true->Nat.testBit ((ZCq l acc).getD j 0) i=true->D i=true
 | [],acc,_,I=>I
 |o::r,acc,J,I=>by have U:acc.length<ops.size:=(by rcases Xa5 acc.length ops.size with h|h;exact h;rw[List.drop_eq_nil_of_le (by simpa using h)]at J;cases J);have ho:ops[acc.length]? =some o:=(by have:(ops.toList.drop acc.length)[0]? =some o:=(by rw[J];rfl);rw[XbQ]at this;simpa using this);refine Zja hD r (acc++ [Zr8 acc o]) (by rw[Xas,<-Xbm,J];rfl) ?_;intro j i R hi;rcases Nat.lt_trichotomy j acc.length with h|h|h;rw[Xan,Xam h,<-Xan]at hi;exact I j i R hi;subst h;rw[Xan,Xaz (Xag _)]at hi;simp only[XbI,XbC,XbH]at hi;obtain⟨e,he,hb,h⟩:=Zq2 hi;have C:=hD _ o ho R e he hb;rcases h with rfl|h;exact C;exact I e.on i C h;rw[Xan,Xax (by simp;omega)]at hi;simp at hi
def Zg3 (h:Hints) (ls:List Nat): ∀ (l:List Oper) (i:Nat),i<=ZcB h ls l i/\ZcB h ls l i<=i+l.length/\ ∀j o,l[j]? =some o->i+j<ZcB h ls l i->has (i+j) ls=false->isW h o=false
 | [],i=>⟨Xag _,Xag _,by simp⟩
 |o::r,i=>by simp only[ZcB];cases R:(!has i ls&&isW h o)with|true=>refine⟨Xag _,by simp, ?_⟩;intro j x _ C;simp only[cond_true]at C;omega|false=>obtain⟨h1,h2,U⟩:=Zg3 h ls r (i+1);refine⟨by simp only[cond_false];omega,by simp only[cond_false,Xaq];omega, ?_⟩;intro j x J C I;cases j with|zero=>simp at J;subst J;simp only[Nat.add_zero]at I;simpa[I]using R|succ j=>simp only[cond_false]at C;exact U j x (by simpa using J) (by omega) (by rw[show i+1+j=i+(j+1)from by omega];exact I)
def Zpy (h:Hints) (ls:List Nat): ∀ (l:List Oper) (i:Nat),ZcB h ls l i<i+l.length->has (ZcB h ls l i) ls=false/\ ∃o,l[ZcB h ls l i-i]? =some o/\isW h o=true
 | [],i=>by simp[ZcB]
 |o::r,i=>by simp only[ZcB];cases j:(!has i ls&&isW h o)with|true=>simp only[cond_true,XbI,XbC];intro _;rw[Xah]at j;exact⟨by simpa using j.1,o,rfl,j.2⟩|false=>simp only[cond_false,Xaq];intro C;obtain⟨I,J,R,U⟩:=Zpy h ls r (i+1) (by omega);have h4:=(Zg3 h ls r (i+1)).1;refine⟨I,J, ?_,U⟩;rw[show ZcB h ls r (i+1)-i=(ZcB h ls r (i+1)-(i+1))+1 from by omega,XaP];exact R
def Zic (h:Hints) (ls:List Nat): ∀ (l:List Oper) (i:Nat),∃r,ZkI h ls l i=ZcB h ls l i::r
 | [],i=>⟨[],rfl⟩
 |o::l,i=>by obtain⟨r,j⟩:=Zic h ls l (i+1);refine⟨ZcB h ls l (i+1)::r, ?_⟩;simp only[ZkI,j,ZcB]
def Zo0 (h:Hints) (ls:List Nat): ∀ (l:List Oper) (i j:Nat),j<=l.length->(ZkI h ls l i)[j]? =some (ZcB h ls (l.drop j) (i+j))
 |l,i,0,_=>by obtain⟨r,C⟩:=Zic h ls l i;rw[C];rfl
 | [],i,j+1,I=>absurd I (Nat.not_succ_le_zero j)
 |o::l,i,j+1,I=>by have J:=Zo0 h ls l (i+1) j (Nat.le_of_succ_le_succ I);obtain⟨r,C⟩:=Zic h ls l (i+1);have e:ZkI h ls (o::l) i=(bif !has i ls&&isW h o then i else ZcB h ls l (i+1))::ZkI h ls l (i+1):=(by simp only[ZkI,C]);rw[e,XaP,J,List.drop_succ_cons,show i+1+j=i+(j+1)from by omega]
def Znl (h:Hints) (ls:List Nat) (ops:Array Oper) (i:Nat):Nat:=ZcB h ls (ops.toList.drop i) i
def ZeR {h:Hints} {ls:List Nat} {ops:Array Oper} {i:Nat} (hi:i<=ops.size):
 i<=Znl h ls ops i/\Znl h ls ops i<=ops.size/\(∀j o,ops[j]? =some o->i<=j->j<Znl h ls ops i->has j ls=false->isW h o=false)/\
 (Znl h ls ops i<ops.size->has (Znl h ls ops i) ls=false/\ ∃o,ops[Znl h ls ops i]? =some o/\isW h o=true):=by
 obtain⟨U,h2,h3⟩:=Zg3 h ls (ops.toList.drop i) i;have J:=Zpy h ls (ops.toList.drop i) i;have hl:(ops.toList.drop i).length=ops.size-i:=by rw[Xbo,Array.length_toList]
 rw[hl]at h2 J;refine⟨U,by unfold Znl;omega,λj o ho aa C I=> ?_,λC=> ?_⟩;have:=h3 (j-i) o (by rw[XbQ,show i+(j-i)=j from by omega];simpa using ho);rw[show i+(j-i)=j from by omega]at this;exact this C I;unfold Znl at C|-;obtain⟨h5,o,R,h7⟩:=J (by omega);refine⟨h5,o, ?_,h7⟩;rw[XbQ,show i+(ZcB h ls (ops.toList.drop i) i-i)=ZcB h ls (ops.toList.drop i) i from by omega]at R;simpa using R
def Zkw {h:Hints} {ls:List Nat} {ops:Array Oper} (hd:ZhY h ls ops=true):
 (∀j o,ops[j]? =some o-> ∀e∈o.after,Region.binds .any e=true->e.on<j)/\
 ∀D,ZgF ops D-> ∀i j x y,i<j->ops[i]? =some x->ops[j]? =some y->D j=true->D i=true\/(x.apart ops y=true/\(has i ls=true\/(has j ls=true/\isW h x=false)\/j<Znl h ls ops i\/(isA x=true/\(ZgU y=true\/isW h y=false)))):=by unfold ZhY at hd;simp only[Xaw,Xba,Xah]at hd;refine⟨?_, ?_⟩;intro j o R e he hb;have I:=(Xbk.1 R).1;have C:=(hd j I).1;unfold Zxi at C;simp only[R,Xaw,Xb2]at C;have:=C e (by simpa using he);simpa[hb]using this;intro D hD i j x y J hx U hj;have I:=(Xbk.1 U).1;have C:=(hd j I).2 i J;unfold ZBJ at C;simp only[hx,U,Xb2,Xah]at C;rcases C with C|⟨C,h2⟩;exact .inl (Zja hD ops.toList [] (by simp) (by intro j i _ h;simp at h) j i hj C);refine .inr ⟨C, ?_⟩;rcases h2 with((h2|h2)|h2)|h2;exact .inl h2;exact .inr (.inl ⟨h2.1,by simpa using h2.2⟩);refine .inr (.inr (.inl ?_));have h3:=Zo0 h ls ops.toList 0 i (by rw[Array.length_toList];omega);rw[Xan,h3,Xak]at h2;exact Xao h2;refine .inr (.inr (.inr ⟨h2.1, ?_⟩));rcases h2.2 with h3|h3;exact .inl h3;exact .inr (by simpa using h3)
def Zye {i:Nat}: ∀ {ls:List Nat},has i ls=true->i∈ls
 | [],h=>by cases h
 |j::l,h=>by have C:(bif Nat.beq i j then true else has i l)=true:=h;cases I:Nat.beq i j with|true=>rw[Xar I];exact Xai|false=>rw[I,cond_false]at C;exact Xaj _ (Zye C)
section
variable {P:Program} {h:Hints} {E:Ev} {H:List Mem} {o:Oper} {ρ ρ':Operand->Option PV}
def ZdE {α β:Type} {f g:α->Option β}: ∀ {l:List α},(∀x∈l,f x=g x)->Za4 f l=Za4 g l
 | [],_=>rfl
 |x::l,h=>by rw[ZhK,ZhK,h x Xai,ZdE λy j=>h y (Xaj _ j)]
def Zh2 {parts:Array (Nat×Operand)} (j: ∀x∈parts,ρ x.2=ρ' x.2):ZgS ρ parts=ZgS ρ' parts:=by unfold ZgS;exact ZdE λx C=>by rw[j x (by simpa using C)]
def Zop {base:Nat} (j: ∀x∈o.op.operands,ρ x=ρ' x):opR P h E H base ρ o=opR P h E H base ρ' o:=by
 obtain⟨dst,op,type,pos,after,guard⟩:=o;cases op<;>simp only[Op.operands,Array.mem_def]at j<;>simp only[opR];case build t ps=>unfold Zl6;rw[Zh2 λx C=>j _ (by simp;exact⟨x.1,C⟩)]
 case buildSlice t n ps=>unfold Zcc;rw[Zh2 λx C=>j _ (by simp;exact⟨x.1,C⟩)]
 case makeFunc fn first J=>
  unfold ZtZ
  rw[ZdE (l:=first.toList) λx C=>j x (by simp at C|-;exact .inl C),ZdE (l:=J.toList) λx C=>j x (by simp at C|-;exact .inr C)]
 case slice t x lo hi U=>
  unfold Zcg
  have one: ∀y:Option Operand,(∀z,y=some z->ρ z=ρ' z)->ZpS ρ y=ZpS ρ' y:=λy hy=>by cases y<;>simp[ZpS];rw[hy _ rfl]
  rw[j x (by simp),one lo λz R=>j z (by simp[R]),one hi λz R=>j z (by simp[R]),one U λz R=>j z (by simp[R])]
 case call c=>
  unfold Zjb
  have I:Za4 ρ c.args.toList=Za4 ρ' c.args.toList:=ZdE λx C=>j x (by simp[Call.operands];exact .inr (by simpa using C))
  cases hc:c.callee with
  |builtin b=>simp only[Zcq,I]
  |value x=>cases x<;>simp only[ZfM,I]
  |invoke _ _=>rfl
 case pick c x y=>unfold Zuv;rw[j c (by simp),j x (by simp),j y (by simp)]
 case move x=>rw[j x (by simp)]
 case assign x=>rw[j x (by simp)]
 case box t x=>rw[j x (by simp)]
 case load t x=>rw[j x (by simp)]
 case nilCheck x=>rw[j x (by simp)]
 case unOp op t x=>rw[j x (by simp)]
 case convert s d x=>rw[j x (by simp)]
 case fieldAddr s x f=>rw[j x (by simp)]
 case field s x f=>rw[j x (by simp)]
 case extract x i=>rw[j x (by simp)]
 case makeInterface t x=>rw[j x (by simp)]
 case typeAssert x xt u ok=>rw[j x (by simp)]
 case binOp op t x y yt=>rw[j x (by simp),j y (by simp)]
 case makeSlice t x y=>rw[j x (by simp),j y (by simp)]
 case indexAddr t x y=>rw[j x (by simp),j y (by simp)]
 case index t x y=>rw[j x (by simp),j y (by simp)]
 case lookup t x y ok=>rw[j x (by simp),j y (by simp)]
def Zvb (j: ∀x∈o.op.operands,ρ x=ρ' x):opW P h E H ρ o=opW P h E H ρ' o:=by
 obtain⟨dst,op,type,pos,after,guard⟩:=o;cases op<;>simp only[Op.operands,Array.mem_def]at j<;>simp only[opW];case store t x y=>rw[j x (by simp),j y (by simp)]
 case mapUpdate t m k x=>rw[j m (by simp),j k (by simp),j x (by simp)]
 case insert t m k x=>rw[j m (by simp),j k (by simp),j x (by simp)]
 case call c=>
  unfold ZuS
  have C:Za4 ρ c.args.toList=Za4 ρ' c.args.toList:=ZdE λx I=>j x (by simp[Call.operands];exact .inr (by simpa using I))
  cases J:c.callee with
  |builtin b=>cases b<;>simp only[Zhz,Zet,Zqg,ZkU,C]
  |value x=>
   have I:ρ x=ρ' x:=j x (by simp[Call.operands,J])
   cases x<;>simp only[Zob,ZuX,C,I]
  |invoke _ _=>rfl
def Zyj (j: ∀x∈o.op.operands,ρ x=ρ' x):opA P h E H ρ o=opA P h E H ρ' o:=by cases hw:isW h o with|true=>rw[Zv6 hw,Zv6 hw];exact Zvb j|false=>rw[Zup hw,Zup hw,Zop j]
def Zmo (j: ∀x∈o.op.operands,ρ x=ρ' x):ZaR P h E H ρ o=ZaR P h E H ρ' o:=by unfold ZaR;rw[Zop j]
variable {ops:Array Oper} {tm tm':List (Nat × PV)}
def Zsk (j: ∀t∈o.looksAt ops,get tm t=get tm' t): ∀x∈o.op.operands,ev tm x=ev tm' x:=by intro x C;cases x<;>simp only[ev];rename_i t;exact j t (Xa8 _ (List.mem_filterMap.2 ⟨.tmp t,by simpa using C,rfl⟩))
def Zqj (C: ∀t∈o.looksAt ops,get tm t=get tm' t):Zeq ops tm o=Zeq ops tm' o:=by unfold Zeq;cases I:o.guard with|none=>rfl|some J=>obtain⟨j,want⟩:=J;simp only[];cases hd:(ops[j]?).bind (·.dst)with|none=>rfl|some d=>simp only[Xaa,C d (by simp[Oper.looksAt,I,hd])]
def ZG8 {base:Nat} {v:PV} {ms:List Mem} {fz:List Nat} (j:opR P h E H base ρ o=some (v,ms,fz)): ∀id∈fz,id<H.length:=by
 unfold opR at j;have J: ∀ {x:Option PV},val x=some (v,ms,fz)-> ∀id∈fz,id<H.length:=λI=>by obtain⟨_,_,rfl⟩:=Zdx I;simp
 have C: ∀ {α:Type} {x:Option α} {f:α->PV} {g:α->List Mem},x.map (λa=>(f a,g a,([]:List Nat)))=some (v,ms,fz)-> ∀id∈fz,id<H.length:=λ{α x f g} I=>by cases x with|none=>simp at I|some a=>simp at I;obtain⟨_,_,rfl⟩:=I;simp
 split at j<;>try exact J j
 exact C j;exact C j;unfold Zcc at j;obtain⟨ps,_,j⟩:=Zai j;exact C j;unfold Zed at j;split at j;exact C j;cases j;unfold Zc0 at j;obtain⟨l,_,j⟩:=Zai j;obtain⟨c,_,j⟩:=Zai j;exact C j
 ·unfold Zjb at j;split at j;exact J j
  ·unfold ZfM at j;obtain⟨_,j⟩:=Zkm j;obtain⟨vs,_,j⟩:=Zai j;unfold Zhv at j;obtain⟨qs,_,j⟩:=Zai j;cases himp:h.imp _ with
   |true=>rw[himp,cond_true]at j;unfold ZCu at j;cases R:Zdj E _ qs base with|none=>rw[R]at j;cases j|some r=>rw[R]at j;simp only[Xal,Xaf,Prod.mk.injEq]at j;intro id hid;rw[<-j.2.2]at hid;cases hf:r.2.2 with|true=>rw[hf]at hid;simp at hid|false=>rw[hf,cond_false]at hid;obtain⟨x,_,I⟩:=XaZ.1 hid;exact Ztw _ _ _ I
   |false=>
   rw[himp,cond_false]at j;unfold ZqL at j;obtain⟨q,_,j⟩:=Zai j;split at j;cases j;intro id hid;obtain⟨x,_,I⟩:=XaZ.1 hid;exact Ztw _ _ _ I;obtain⟨_,j⟩:=Zak j;cases j;simp
  cases j
 cases j
end
variable [Laid]
section
variable {φ φ':Phi} {w w':World} {S S':Nat->Prop} {B N:Nat}
def tmD (D:Nat->Bool) (dst:Nat->Option Tmp) (v:Nat->PV) (tm0:List (Nat×PV)):Nat->List (Nat×PV)
 |0=>tm0
 |i+1=>match D i,dst i with
  |true,some d=>(d,v i)::tmD D dst v tm0 i
  |_,_=>tmD D dst v tm0 i
variable {D D':Nat->Bool} {dst:Nat->Option Tmp} {v:Nat->PV} {tm0:List (Nat × PV)}
def Zhm (t:Nat): ∀n,(∀i,i<n->dst i=some t->D i=D' i)->get (tmD D dst v tm0 n) t=get (tmD D' dst v tm0 n) t
 |0,_=>rfl
 |n+1,h=>by
  have C:=Zhm t n λi hi=>h i (by omega);simp only[tmD];cases hd:dst n with
  |none=>cases D n<;>cases D' n<;>exact C
  |some d=>
   by_cases j:d=t;subst j;rw[<-h n (by omega) hd];(cases D n with|true=>simp[Zcu]|false=>exact C);have g: ∀ (D:Nat->Bool),get (match D n,some d with|true,some d=>(d,v n)::tmD D dst v tm0 n|_,_=>tmD D dst v tm0 n) t=get (tmD D dst v tm0 n) t:=by intro D;cases D n with|true=>simp only[Zcu,if_neg (λe:t=d=>j e.symm)]|false=>rfl
   rw[g,g,C]
def ZkH {k:Nat}: ∀n,k<=n->(∀i,k<=i->i<n->D i=false)->tmD D dst v tm0 n=tmD D dst v tm0 k
 |0,h,_=>by rw[show k=0 from by omega]
 |n+1,h,hd=>by rcases Xa5 n k with h'|h';rw[show k=n+1 from by omega];simp only[tmD,hd n h' (by omega)];exact ZkH n h' λi j C=>hd i j (by omega)
def Zv9 {j:Nat} (hj:D j=false) (C:D' j=true) (U: ∀i,i≠j->D' i=D i) {d:Nat} (hd:dst j=some d) (t:Nat): ∀n,j<n->(∀i,j<i->i<n->D i=true->dst i≠some d)->
 get (tmD D' dst v tm0 n) t=get ((d,v j)::tmD D dst v tm0 n) t
 |0,h,_=>by omega
 |n+1,h,hc=>by by_cases I:j=n;subst I;simp only[tmD,hj,C,hd];rw[Zcu,Zcu];have:=Zhm (D:=D') (D':=D) (dst:=dst) (v:=v) (tm0:=tm0) t j (λi hi _=>U i (by omega));rw[this];have J:=Zv9 hj C U hd t n (by omega) λi R h2=>hc i R (by omega);simp only[tmD,U n (λe=>I e.symm)];cases aa:D n with|false=>exact J|true=>cases he:dst n with|none=>exact J|some e=>have ab:e≠d:=λh'=>hc n (by omega) (by omega) aa (by rw[he,h']);simp only[Zcu]at J|-;rw[J];by_cases R:t=e;subst R;simp[ab];simp[R]
def Zzy {j:Nat} (C:D' j=true) (I: ∀i,i≠j->D' i=D i) (hd:dst j=none) (t:Nat) (n:Nat):get (tmD D' dst v tm0 n) t=get (tmD D dst v tm0 n) t:=
 Zhm t n λi _ hi=>I i (by rintro rfl;rw[hd]at hi;cases hi)
def TRel.congr {tm tm':List (Nat×PV)} {a:Act} (j:TRel φ w S N tm a) (h: ∀t,get tm' t=get tm t):TRel φ w S N tm' a:=
 ⟨j.1,j.2.1,λi p hp=>j.2.2 i p (by rw[<-h];exact hp)⟩
end
def Frz (H H':List Mem):Prop:=H.length<=H'.length/\ ∀ (id:Nat) (m:Mem),H[id]? =some m->H'[id]? =some m\/ ∃es z b,m= .row es z b/\H'[id]? =some (.row es z false)
def Frz.refl (H:List Mem):Frz H H:=⟨Xag _,λ_ _ h=> .inl h⟩
def Frz.trans {H H' j:List Mem} (h:Frz H H') (C:Frz H' j):Frz H j:=⟨XaK h.1 C.1,λid m hm=>by rcases h.2 id m hm with I|⟨es,z,b,rfl,I⟩;exact C.2 id m I;rcases C.2 id _ I with J|⟨es',z',U,R,J⟩;exact .inr ⟨es,z,b,rfl,J⟩;cases R;exact .inr ⟨es,z,b,rfl,J⟩⟩
def Frz.sub {H H':List Mem} (h:Frz H H'):Sub H H':=λid m hm=>by rcases h.2 id m hm with j|⟨es,z,b,rfl,j⟩;exact⟨m,j,simM.refl m⟩;exact⟨_,j,by simp[simM]⟩
def Zf9: ∀ (ids:List Nat) (H:List Mem),Frz H (freeze ids H)
 | [],H=>Frz.refl H
 |i::ids,H=>by show Frz H (freeze ids (freeze1 H i));refine Frz.trans ⟨by rw[Zco];exact Xag _, ?_⟩ (Zf9 ids _);intro id m hm;rcases ZaV H i id with j|⟨rfl,es,z,b,j,C⟩;exact .inl (by rw[j];exact hm);rw[hm]at j;cases j;exact .inr ⟨es,z,b,rfl,C⟩
def Frz.app (H ms:List Mem):Frz H (H++ms):=⟨by simp,λid m hm=> .inl (by rw[Xam (Xae.1 hm).1];exact hm)⟩
def ZkV: ∀ (ids:List Nat) (H:List Mem) (id:Nat),id∈ids-> ∀es z m,(freeze ids H)[id]? =some (.row es z m)->m=false
 |i::ids,H,id,hid,es,z,m,h=>by have I:(freeze ids (freeze1 H i))[id]? =some (.row es z m):=h;by_cases hi:id∈ids;exact ZkV ids _ id hi es z m I;have hid:id=i:=(by rcases Xau.1 hid with h|h;exact h;exact absurd h hi);subst hid;obtain⟨b,j⟩:=Zgo ids _ _ _ _ _ I;have:b=false:=(by rcases ZaV H id id with R|⟨_,es',z',b',R,U⟩;unfold freeze1 at j;split at j;rename_i hx;rw[XaE (Xae.1 hx).1]at j;cases j;rfl;rename_i J;exact absurd j (J _ _ _);rw[U]at j;cases j;rfl);subst this;rcases(Zf9 ids (freeze1 H id)).2 id _ j with C|⟨_,_,_,_,C⟩;rw[I]at C;cases C;rfl;rw[I]at C;cases C;rfl
section
variable {P:Program} {h:Hints} {E:Ev} {w:World} {φ:Phi} {S:Nat->Prop} {B:Nat} {H H':List Mem} {N:Nat}
def Inv.frz (U:Inv φ H w S B) (hf:Frz H H'): ∃S',Inv φ H' w S' B/\Evo H.length B φ S w φ S' w:=by
 let l:=(List.range H.length).filter λi=>match H'[i]? with|some (.row _ _ false)=>true|_=>false
 obtain⟨S',h1,h2,h3⟩:=U.freeze l;refine⟨S',h1.reheap ?_ (by rw[ZaW];exact hf.1),h2⟩;intro i l' hl;left;have J:=(U.live i l' hl).2.2;obtain⟨m,hm⟩: ∃m,H[i]? =some m:=⟨H[i],by simp[J]⟩;rcases(Zf9 l H).2 i m hm with I|⟨es,z,b,rfl,I⟩;rw[I];rcases hf.2 i m hm with C|⟨es,z,b,rfl,C⟩;exact C;have:i∈l:=by simp only[l,XbF,Xba];exact⟨J,by rw[C]⟩
 have:=ZkV l H i this _ _ _ I;subst this;exact C;rw[I];rcases hf.2 i _ hm with C|⟨es',z',b',h6,C⟩;cases b with
   |false=>exact C
   |true=>
    have:i ∉ l:=(by simp only[l,XbF,Xba];rintro⟨_,R⟩;rw[C]at R;cases R);exfalso;have keep: ∀ (ids:List Nat) (H:List Mem),i ∉ ids->(Am.freeze ids H)[i]? =H[i]? :=by intro ids;induction ids with|nil=>intro H _;rfl|cons j ids ih=>intro H hi;show(Am.freeze ids (Am.freeze1 H j))[i]? =_;rw[ih _ (λR=>hi (Xaj _ R))];rcases ZaV H j i with h7|⟨rfl,_⟩;exact h7;exact absurd Xai hi
    rw[keep l H this,hm]at I;cases I
 cases h6;exact C
end
variable [Laid]
section
variable {P:Program} {h:Hints} {E:Ev} {w:World} {φ:Phi} {S:Nat->Prop} {B:Nat} {N:Nat} {ops:Array Oper} {ls:List Nat} {a:Act} {Q:Exit->Act->World->Prop}
def Zv0 {o:Oper} {acc:List (Nat×Oper×List (Nat×PV)×PV)} {x:Nat×Oper×List (Nat×PV)×PV} (hx:x∈acc) (j: ¬ (isW h o=true/\Zev o x.1=true)):x∈Zcw h o acc:=by unfold Zcw;cases hw:isW h o with|false=>rw[cond_false];exact hx|true=>rw[cond_true];have j:Zev o x.1=false:=(by cases I:Zev o x.1 with|false=>rfl|true=>exact absurd ⟨hw,I⟩ j);induction acc with|nil=>cases hx|cons y acc C=>show x∈(bif Zev o y.1 then _ else y::_:List _);rcases Xau.1 hx with rfl|hx;rw[j,cond_false];exact Xai;cases Zev o y.1 with|true=>rw[cond_true];exact C hx|false=>rw[cond_false];exact Xaj _ (C hx)
def Zw0 {o:Oper} {acc:List (Nat×Oper×List (Nat×PV)×PV)} {x:Nat×Oper×List (Nat×PV)×PV} (hx:x∈Zcw h o acc):x∈acc:=by unfold Zcw at hx;cases hw:isW h o with|false=>rw[hw,cond_false]at hx;exact hx|true=>rw[hw,cond_true]at hx;clear hw;induction acc with|nil=>cases hx|cons y acc j=>have hx:x∈(bif Zev o y.1 then _ else y::_:List _):=hx;cases C:Zev o y.1 with|true=>rw[C,cond_true]at hx;exact Xaj _ (j hx)|false=>rw[C,cond_false]at hx;rcases Xau.1 hx with rfl|hx;exact Xai;exact Xaj _ (j hx)
def Zwn {o:Oper}:Zcw h o []=[]:=by unfold Zcw;cases isW h o<;>rfl
def ZuG {o:Oper} {j:Nat} (hw:Zev o j=true): ∃e∈o.after,Region.binds .any e=true/\e.on=j:=by
 unfold Zev at hw;have gen: ∀l:List Edge,(List.rec (motive:=λ_=>Bool) false (λe _ I=>bif Nat.beq e.on j&&Region.binds .any e then true else I) l)=true-> ∃e∈l,Region.binds .any e=true/\e.on=j:=by intro l;induction l with|nil=>intro h;cases h|cons e l I=>intro h;have h:(bif Nat.beq e.on j&&Region.binds .any e then true else _)=true:=h;cases C:Nat.beq e.on j&&Region.binds .any e with|true=>rw[Xah]at C;exact⟨e,Xai,C.2,Xar C.1⟩|false=>rw[C,cond_false]at h;obtain⟨U,J,R⟩:=I h;exact⟨U,Xaj _ J,R⟩
 obtain⟨e,J,R⟩:=gen _ hw;exact⟨e,by simpa using J,R⟩
def ZfF {o:Oper} {l:List Oper} {i:Nat} {acc:List (Nat×Oper×List (Nat×PV)×PV)} {s C:St} (R:Zbv P h E N ops ls (o::l) i acc s=some C):
 ∃s1,Zhd P h E N ops ls i o s=some s1/\((has i ls=true/\ ∃j,ZzM P h E ops i o s acc=some j/\Zbv P h E N ops ls l (i+1) j s1=some C)\/(has i ls=false/\ZdY P h E (Zcw h o acc) s1.hp=some ()/\Zbv P h E N ops ls l (i+1) (Zcw h o acc) s1=some C)):=by have U:((Zhd P h E N ops ls i o s).bind λs1=>bif has i ls then(ZzM P h E ops i o s acc).bind λj=>Zbv P h E N ops ls l (i+1) j s1 else(ZdY P h E (Zcw h o acc) s1.hp).bind λ_=>Zbv P h E N ops ls l (i+1) (Zcw h o acc) s1)=some C:=R;obtain⟨s1,h3,I⟩:=Zai U;refine⟨s1,h3, ?_⟩;cases J:has i ls with|true=>rw[J,cond_true]at I;exact .inl ⟨rfl,Zai I⟩|false=>rw[J,cond_false]at I;obtain⟨u,h5,h6⟩:=Zai I;exact .inr ⟨rfl,h5,h6⟩
def ZyX {u v:PV} (j:ZC9 u v=true):u=v:=by unfold ZC9 at j;split at j;simp only[Xah,decide_eq_true_eq]at j;obtain⟨rfl,rfl⟩:=j;rfl;simp only[beq_iff_eq]at j;subst j;rfl;rename_i a b;simp only[beq_iff_eq]at j;obtain⟨⟨la⟩⟩:=a;obtain⟨⟨lb⟩⟩:=b;simp only at j;subst j;rfl;simp only[Xah,Nat.beq_eq]at j;obtain⟨⟨⟨rfl,rfl⟩,rfl⟩,rfl⟩:=j;rfl;simp only[Xah,Nat.beq_eq]at j;obtain⟨⟨rfl,rfl⟩,rfl⟩:=j;rfl;rfl;rfl;rfl;simp only[Xah,Nat.beq_eq,beq_iff_eq]at j;obtain⟨rfl,rfl⟩:=j;rfl;simp only[Xah,Nat.beq_eq,decide_eq_true_eq]at j;obtain⟨rfl,rfl,rfl⟩:=j;rfl;rename_i a u b;simp only[Xah,Nat.beq_eq,beq_iff_eq]at j;obtain⟨rfl,j⟩:=j;obtain⟨⟨la⟩⟩:=a;obtain⟨⟨lb⟩⟩:=b;simp only at j;subst j;rfl;cases j
def ZnF {s:PV->PV->Bool} (C: ∀u v,s u v=true->u=v): ∀ {a b:List PV},ZuF s a b=true->a=b
 | [],[],_=>rfl
 | [],_::_,h=>by cases h
 |_::_,[],h=>by cases h
 |x::a,y::b,h=>by have j:(s x y&&ZuF s a b)=true:=h;rw[Xah]at j;rw[C _ _ j.1,ZnF C j.2]
def Zr2 {s:PV->PV->Bool} (C: ∀u v,s u v=true->u=v): ∀ {a b:List (List PV)},Zwl s a b=true->a=b
 | [],[],_=>rfl
 | [],_::_,h=>by cases h
 |_::_,[],h=>by cases h
 |x::a,y::b,h=>by have j:(ZuF s x y&&Zwl s a b)=true:=h;rw[Xah]at j;rw[ZnF C j.1,Zr2 C j.2]
def ZhZ {s:PV->PV->Bool} (j: ∀u v,s u v=true->u=v): ∀u v,ZlK s u v=true->u=v:=by intro u v h;unfold ZlK at h;split at h;rw[Zr2 j h];rw[ZnF j h];rw[Xah]at h;rw[ZnF j h.1,Xar h.2];exact j _ _ h
def ZzL: ∀u v,Zzm u v=true->u=v:=ZhZ (ZhZ (ZhZ (ZhZ λ_ _ h=>ZyX h)))
def Zxw {u v:PV} (j:ZgE u v=true):u=v:=by unfold ZgE at j;cases h:Zzm u v with|true=>exact ZzL _ _ h|false=>rw[h,cond_false]at j;exact @of_decide_eq_true _ (Classical.propDecidable _) j
def Zrc (v:PV):ZgE v v=true:=by unfold ZgE;cases Zzm v v with|true=>rfl|false=>rw[cond_false];exact @decide_eq_true _ (Classical.propDecidable _) rfl
def Zme {H:List Mem}: ∀ {acc:List (Nat×Oper×List (Nat×PV)×PV)},ZdY P h E acc H=some ()-> ∀x∈acc,ZaR P h E H (ev x.2.2.1) x.2.1=some x.2.2.2
 | [],_,x,hx=>by cases hx
 |y::acc,I,x,hx=>by have j:((ZaR P h E H (ev y.2.2.1) y.2.1).bind λv=>bif ZgE v y.2.2.2 then ZdY P h E acc H else none)=some ():=I;obtain⟨v,J,j⟩:=Zai j;cases C:ZgE v y.2.2.2 with|false=>rw[C,cond_false]at j;cases j|true=>rw[C,cond_true]at j;rcases Xau.1 hx with rfl|hx;rw[J,Zxw C];exact Zme j x hx
def Zk2 {i:Nat} {o:Oper} {s:St} {acc j:List (Nat×Oper×List (Nat×PV)×PV)} (C:ZzM P h E ops i o s acc=some j):
 (Zeq ops s.tm o=some true/\ ∃v,ZaR P h E s.hp (ev s.tm) o=some v/\j=(i,o,s.tm,v)::acc)\/(Zeq ops s.tm o=some false/\j=acc):=by unfold ZzM at C;obtain⟨b,I,C⟩:=Zai C;cases b with|true=>(rw[cond_true]at C;cases J:ZaR P h E s.hp (ev s.tm) o with|none=>rw[J]at C;cases C|some v=>rw[J]at C;cases C;exact .inl ⟨I,v,rfl,rfl⟩)|false=>rw[cond_false]at C;cases C;exact .inr ⟨I,rfl⟩
def Zqt {i:Nat} {o:Oper} {s C:St} (hi:has i ls=true) (j:Zhd P h E N ops ls i o s=some C):C.hp=s.hp:=by unfold Zhd at j;rw[hi,cond_true]at j;unfold ZxS at j;obtain⟨b,_,j⟩:=Zai j;cases b with|true=>(rw[cond_true]at j;obtain⟨v,_,j⟩:=Zai j;cases hp:Zf2 N o.dst v s.tm with|none=>rw[hp]at j;cases j|some tm=>rw[hp]at j;cases j;rfl)|false=>rw[cond_false]at j;cases hp:Zf2 N o.dst (.tup []) s.tm with|none=>rw[hp]at j;cases j|some tm=>rw[hp]at j;cases j;rfl
def ZHe: ∀ (l:List Oper) (i:Nat) (acc:List (Nat×Oper×List (Nat×PV)×PV)) (st J:St),ops.toList.drop i=l->i<=ops.size->Zbv P h E N ops ls l i acc st=some J->
 (∀x∈acc,ZaR P h E st.hp (ev x.2.2.1) x.2.1=some x.2.2.2)->
 ∃s:Nat->St,s i=st/\s ops.size=J/\(∀j o,i<=j->ops[j]? =some o->Zhd P h E N ops ls j o (s j)=some (s (j+1)))/\
  (∀x∈acc,∀m,i<=m->m<=ops.size->(∀n y,i<=n->n<m->ops[n]? =some y->has n ls=false->isW h y=true->Zev y x.1=false)->ZaR P h E (s m).hp (ev x.2.2.1) x.2.1=some x.2.2.2)/\
  (∀j o v,i<=j->ops[j]? =some o->has j ls=true->Zeq ops (s j).tm o=some true->ZaR P h E (s j).hp (ev (s j).tm) o=some v-> ∀m,j<=m->m<=ops.size->(∀n y,j<=n->n<m->ops[n]? =some y->has n ls=false->isW h y=true->Zev y j=false)->ZaR P h E (s m).hp (ev (s j).tm) o=some v)
 | [],i,acc,st,J,hl,hi,aa,I=>by have aq:ops.size<=i:=(by have:=List.drop_eq_nil_iff.1 hl;simpa using this);cases aa;refine⟨λ_=>st,rfl,rfl,λj o hj ho=> ?_,λx hx m _ _ _=>I x hx,λj o v hj ho=> ?_⟩;have:=(Xbk.1 ho).1;omega;have:=(Xbk.1 ho).1;omega
 |o::l,i,acc,st,J,hl,hi,aa,I=>by
  have ae:i<ops.size:=(by rcases Xa5 i ops.size with h|h;exact h;rw[List.drop_eq_nil_of_le (by simpa using h)]at hl;cases hl);have ho:ops[i]? =some o:=(by have:(ops.toList.drop i)[0]? =some o:=(by rw[hl];rfl);rw[XbQ]at this;simpa using this);obtain⟨s1,h1,h2⟩:=ZfF aa;have main: ∃C,(∀x∈acc,¬ (has i ls=false/\isW h o=true/\Zev o x.1=true)->x∈C)/\(has i ls=true->Zeq ops st.tm o=some true-> ∀v,ZaR P h E st.hp (ev st.tm) o=some v->(i,o,st.tm,v)∈C)/\(∀x∈C,ZaR P h E s1.hp (ev x.2.2.1) x.2.1=some x.2.2.2)/\Zbv P h E N ops ls l (i+1) C s1=some J:=by rcases h2 with⟨h3,C,h4,h5⟩|⟨h3,h4,h5⟩;refine⟨C, ?_, ?_, ?_,h5⟩;intro x hx _;rcases Zk2 h4 with⟨_,v,_,rfl⟩|⟨_,rfl⟩;exact Xaj _ hx;exact hx;intro _ hw v R;rcases Zk2 h4 with⟨_,v',af,rfl⟩|⟨ag,_⟩;rw[R]at af;cases af;exact Xai;rw[hw]at ag;cases ag;rw[Zqt h3 h1];intro x hx;rcases Zk2 h4 with⟨_,v,R,rfl⟩|⟨_,rfl⟩;rcases Xau.1 hx with rfl|hx;exact R;exact I x hx;exact I x hx;exact⟨Zcw h o acc,λx hx hn=>Zv0 hx λ⟨w1,w2⟩=>hn ⟨h3,w1,w2⟩,λh=>(by rw[h3]at h;cases h),Zme h4,h5⟩
  obtain⟨C,ah,ai,aj,ak⟩:=main;obtain⟨s,e1,e2,e3,e4,e5⟩:=ZHe l (i+1) C s1 J (by rw[<-Xbm,hl];rfl) ae ak aj;have hs: ∀m,i+1<=m->(if m<=i then st else s m)=s m:=λm hm=>if_neg (by omega)
  refine⟨λj=>if j<=i then st else s j,by simp,by simp only[if_neg (Nat.not_le.2 ae)];exact e2,λj x hj hx=> ?_,λx hx m hm U hq=> ?_,λj x v hj hx hb hw R m hm U hq=> ?_⟩;by_cases ab:j=i;subst ab;rw[ho]at hx;cases hx;simp only[Xag,if_true,if_neg (show ¬j+1<=j by omega),e1];exact h1;simp only[if_neg (show ¬j<=i by omega),if_neg (show ¬j+1<=i by omega)];exact e3 j x (by omega) hx;by_cases al:m=i;subst al;simp only[Xag,if_true];exact I x hx;simp only[hs m (by omega)];exact e4 x (ah x hx λ⟨w0,w1,w2⟩=>(by have:=hq i o (Xag _) (by omega) ho w0 w1;rw[w2]at this;cases this)) m (by omega) U λn y an ad=>hq n y (by omega) ad;by_cases ab:j=i;subst ab;rw[ho]at hx;cases hx;simp only[Xag,if_true]at R hw|-;by_cases ao:m=j;subst ao;simp only[Xag,if_true];exact R;simp only[hs m (by omega)];exact e4 _ (ai hb hw v R) m (by omega) U λn y an ad=>hq n y (by omega) ad;simp only[hs j (by omega)]at R hw|-;simp only[hs m (by omega)];exact e5 j x v (by omega) hx hb hw R m hm U hq
structure At (P:Program) (h:Hints) (E:Ev) (N:Nat) (ops:Array Oper) (ls:List Nat) (i:Nat) (o:Oper) (st st':St) (v:PV):Prop where
 put:Zf2 N o.dst v st.tm=some st'.tm
 kind:(Zeq ops st.tm o=some false/\v= .tup []/\st'.hp=st.hp)\/
  (Zeq ops st.tm o=some true/\has i ls=true/\ZaR P h E st.hp (ev st.tm) o=some v/\st'.hp=st.hp)\/
  (Zeq ops st.tm o=some true/\has i ls=false/\opA P h E st.hp (ev st.tm) o=some (v,st'.hp))
def Zsw {x:Option (List (Nat×PV))} {hp:List Mem} {st:St} (j:x.map (λtm=>(⟨tm,hp⟩:St))=some st):x=some st.tm/\st.hp=hp:=by cases x with|none=>simp at j|some y=>simp at j;subst j;exact⟨rfl,rfl⟩
def ZrK {i:Nat} {o:Oper} {st J:St} (j:Zhd P h E N ops ls i o st=some J): ∃v,At P h E N ops ls i o st J v:=by unfold Zhd at j;cases U:has i ls with|true=>(rw[U,cond_true]at j;unfold ZxS at j;obtain⟨b,R,j⟩:=Zai j;cases b with|true=>rw[cond_true]at j;obtain⟨v,hv,j⟩:=Zai j;obtain⟨C,I⟩:=Zsw j;exact⟨v,C, .inr (.inl ⟨R,U,hv,I⟩)⟩|false=>rw[cond_false]at j;obtain⟨C,I⟩:=Zsw j;exact⟨_,C, .inl ⟨R,rfl,I⟩⟩)|false=>rw[U,cond_false]at j;unfold Zdr at j;obtain⟨b,R,j⟩:=Zai j;cases b with|true=>rw[cond_true]at j;obtain⟨⟨v,H'⟩,hv,j⟩:=Zai j;obtain⟨C,I⟩:=Zsw j;exact⟨v,C, .inr (.inr ⟨R,U,by rw[I];exact hv⟩)⟩|false=>rw[cond_false]at j;obtain⟨C,I⟩:=Zsw j;exact⟨_,C, .inl ⟨R,rfl,I⟩⟩
abbrev Zd1 (ops:Array Oper) (i:Nat):Option Tmp:=(ops[i]?).bind (·.dst)
structure Tr (P:Program) (h:Hints) (E:Ev) (N:Nat) (ops:Array Oper) (ls:List Nat) (s:Nat->St) (v:Nat->PV):Prop where
 at_: ∀i o,ops[i]? =some o->At P h E N ops ls i o (s i) (s (i+1)) (v i)
 lt: ∀j o u,ops[j]? =some o->has j ls=true->Zeq ops (s j).tm o=some true->ZaR P h E (s j).hp (ev (s j).tm) o=some u-> ∀m,j<=m->m<=ops.size->(∀n y,j<=n->n<m->ops[n]? =some y->has n ls=false->isW h y=true->Zev y j=false)->ZaR P h E (s m).hp (ev (s j).tm) o=some u
variable {s:Nat->St} {v:Nat->PV}
def Tr.op (_:Tr P h E N ops ls s v) {i:Nat} (hi:i<ops.size): ∃o,ops[i]? =some o:=⟨ops[i],by simp[hi]⟩
def Tr.len1 (T:Tr P h E N ops ls s v) (hG:Good P h E) {i:Nat} (hi:i<ops.size):(s i).hp.length<=(s (i+1)).hp.length:=by obtain⟨o,j⟩:=T.op hi;rcases(T.at_ i o j).kind with⟨_,_,e⟩|⟨_,_,_,e⟩|⟨_,_,e⟩;rw[e];exact Xag _;rw[e];exact Xag _;exact Zp2 hG e
def Tr.len (T:Tr P h E N ops ls s v) (hG:Good P h E) {i:Nat}: ∀j,i<=j->j<=ops.size->(s i).hp.length<=(s j).hp.length
 |0,h,_=>by rw[show i=0 from by omega];exact Xag _
 |j+1,h,I=>by by_cases C:i=j+1;subst C;exact Xag _;exact XaK (T.len hG j (by omega) (by omega)) (T.len1 hG (by omega))
def Tr.light (T:Tr P h E N ops ls s v) {i:Nat} (hi:i<ops.size) (j:has i ls=true):(s (i+1)).hp=(s i).hp:=by obtain⟨o,C⟩:=T.op hi;rcases(T.at_ i o C).kind with⟨_,_,e⟩|⟨_,_,_,e⟩|⟨_,e,_⟩;exact e;exact e;rw[j]at e;cases e
def Tr.lights (T:Tr P h E N ops ls s v) {i:Nat}: ∀j,i<=j->j<=ops.size->(∀x,i<=x->x<j->has x ls=true)->(s j).hp=(s i).hp
 |0,h,_,_=>by rw[show i=0 from by omega]
 |j+1,h,R,I=>by by_cases C:i=j+1;subst C;rfl;rw[T.light (by omega) (I j (by omega) (by omega))];exact T.lights j (by omega) (by omega) λx J U=>I x J (by omega)
def Tr.frz1 (T:Tr P h E N ops ls s v) {i:Nat} (hi:i<ops.size) (hw: ∀o,ops[i]? =some o->has i ls=false->isW h o=false):Frz (s i).hp (s (i+1)).hp:=by obtain⟨o,j⟩:=T.op hi;rcases(T.at_ i o j).kind with⟨_,_,e⟩|⟨_,_,_,e⟩|⟨_,I,e⟩;rw[e];exact Frz.refl _;rw[e];exact Frz.refl _;rw[Zup (hw o j I)]at e;unfold ZeI at e;cases C:opR P h E (s i).hp (s i).hp.length (ev (s i).tm) o with|none=>simp[C]at e|some x=>obtain⟨q,ms,fz⟩:=x;simp only[C,Xal,Xaf,Prod.mk.injEq]at e;rw[<-e.2];exact(Zf9 _ _).trans (Frz.app _ _)
def Tr.frz (T:Tr P h E N ops ls s v) {i:Nat}: ∀j,i<=j->j<=ops.size->(∀x o,i<=x->x<j->ops[x]? =some o->has x ls=false->isW h o=false)->Frz (s i).hp (s j).hp
 |0,h,_,_=>by rw[show i=0 from by omega];exact Frz.refl _
 |j+1,h,R,hw=>by by_cases C:i=j+1;subst C;exact Frz.refl _;exact(T.frz j (by omega) (by omega) λx o I U=>hw x o I (by omega)).trans (T.frz1 (by omega) λo J=>hw j o (by omega) (by omega) J)
def Zx0 {d:Option Tmp} {u:PV} {tm tm':List (Nat×PV)} (hp:Zf2 N d u tm=some tm'):(∀t,d=some t->t<N/\tm'=(t,u)::tm)/\(d=none->tm'=tm):=by unfold Zf2 at hp;cases d with|none=>simp at hp;exact⟨by simp,λ_=>hp.symm⟩|some t=>simp only[]at hp;obtain⟨j,C⟩:=Zak hp;cases C;exact⟨λI e=>by cases e;exact⟨j,rfl⟩,by simp⟩
def Tr.full (T:Tr P h E N ops ls s v) {D:Nat->Bool}: ∀m,m<=ops.size->(∀i,i<m->D i=true)->tmD D (Zd1 ops) v (s 0).tm m=(s m).tm
 |0,_,_=>rfl
 |m+1,hm,hD=>by obtain⟨o,j⟩:=T.op (i:=m) hm;have C:=T.full m (by omega) λi hi=>hD i (by omega);have hp:=Zx0 (T.at_ m o j).put;simp only[tmD,hD m (by omega),Zd1,j,Xaa];cases hd:o.dst with|none=>rw[(hp.2 hd)];exact C|some d=>rw[(hp.1 d hd).2,<-C]
def FrzAt (H H':List Mem) (id:Nat):Prop:= ∀m,H[id]? =some m->H'[id]? =some m\/ ∃es z b,m= .row es z b/\H'[id]? =some (.row es z false)
def FrzAt.trans {H H' j:List Mem} {id:Nat} (R:FrzAt H H' id) (J:FrzAt H' j id):FrzAt H j id:=λm hm=>by rcases R m hm with C|⟨es,z,b,rfl,C⟩;exact J m C;rcases J _ C with I|⟨es',z',b',U,I⟩;exact .inr ⟨es,z,b,rfl,I⟩;cases U;exact .inr ⟨es,z,b,rfl,I⟩
def Frz.at {H H':List Mem} (h:Frz H H') (id:Nat):FrzAt H H' id:=λm hm=>h.2 id m hm
structure DInv (h:Hints) (N:Nat) (ops:Array Oper) (ls:List Nat) (s:Nat->St) (v:Nat->PV) (B:Nat) (φ0:Phi) (S0:Nat->Prop) (w0:World) (D:Nat->Bool) (b m:Nat) (φ:Phi) (S:Nat->Prop) (w:World) (a:Act):Prop where
 tm:TRel φ w S N (tmD D (Zd1 ops) v (s 0).tm ops.size) a
 seg:b<=ops.size/\m=Znl h ls ops b
 inv:Inv φ (s m).hp w S B
 un: ∀i,i<m->has i ls=false->D i=false-> ∀id,(s i).hp.length<=id->id<(s (i+1)).hp.length->φ id=none/\FrzAt (s (i+1)).hp (s m).hp id
 hi: ∀i,m<=i->i<ops.size->has i ls=false->D i=false
 lo: ∀i,i<b->has i ls=false->D i=true\/ ∃o,ops[i]? =some o/\isA o=true
 evo:Evo (s 0).hp.length B φ0 S0 w0 φ S w
variable {φ0:Phi} {S0:Nat->Prop} {w0:World} {D:Nat->Bool} {b m:Nat}
def ZGW {ρ:Operand->Option PV} {base:Nat} {o:Oper} {H:List Mem} (I:isA o=true) {r:PV×List Mem×List Nat} (j:opR P h E H base ρ o=some r) (H':List Mem):opR P h E H' base ρ o=some r/\r.2.2=[]:=by
 unfold isA at I;unfold opR at j|-;have C: ∀ {α:Type} {x:Option α} {f:α->PV} {g:α->List Mem},x.map (λa=>(f a,g a,([]:List Nat)))=some r->r.2.2=[]:=λ{α x f g} J=>by cases x with|none=>simp at J|some a=>simp at J;subst J;rfl
 cases R:o.op<;>simp only[R]at I j|- <;>try (cases I;done)
 exact⟨j,C j⟩;exact⟨j,C j⟩;refine⟨j, ?_⟩;unfold Zcc at j;obtain⟨ps,_,j⟩:=Zai j;exact C j
def ZCj {o:Oper} (j:isA o=true):isW h o=false:=by unfold isA at j;unfold isW;cases C:o.op<;>simp only[C]at j|- <;>cases j
def ZvT (hG:Good P h E) (hd:ZhY h ls ops=true) (T:Tr P h E N ops ls s v) (I:DInv h N ops ls s v B φ0 S0 w0 D b m φ S w a) (ay:ZgF ops D) {j:Nat} {o:Oper} (ho:ops[j]? =some o) (ae:D j=false)
 (az:ZgF ops λi=>D i||i==j) {K:Act->World->Prop} (hK: ∀b' m' φ' S' w' a',DInv h N ops ls s v B φ0 S0 w0 (λi=>D i||i==j) b' m' φ' S' w' a'->K a' w'):wpOp P ops Q j K a w:=by
 have ah:=Zkw hd;have aq:j<ops.size:=(Xbk.1 ho).1;have ab: ∀i,i≠j->(D i||i==j)=D i:=λi hi=>by simp[hi]
 obtain⟨bm,af,ai,aj⟩:=ZeR (h:=h) (ls:=ls) I.seg.1;rw[<-I.seg.2]at bm af ai aj;have early: ∀i x,i<j->ops[i]? =some x->D i=true\/(x.apart ops o=true/\(has i ls=true\/(has j ls=true/\isW h x=false)\/j<Znl h ls ops i\/(isA x=true/\(ZgU o=true\/isW h o=false)))):=by intro i x U hx;have:=ah.2 _ az i j x o U hx ho (by simp);rw[ab i (by omega)]at this;exact this
 have late: ∀i y,j<i->ops[i]? =some y->D i=true->o.apart ops y=true:=by intro i y U R ag;rcases ah.2 D ay j i o y U ho R ag with h1|h1;rw[ae]at h1;cases h1;exact h1.1
 have bn:j<=m:=by rcases Xa5 m j with hmj|hmj;obtain⟨h1,y,R,hw⟩:=aj (by omega);have bo:=I.hi m (Xag _) (by omega) h1;rcases early m y hmj R with h2|⟨_,h2|⟨_,h2⟩|h2|⟨h2,_⟩⟩;rw[bo]at h2;cases h2;rw[h1]at h2;cases h2;rw[hw]at h2;cases h2;have:=(ZeR (h:=h) (ls:=ls) (ops:=ops) (i:=m) af);exfalso;rcases Xa5 m (Znl h ls ops m)with h3|h3;have:=this.2.2.1 m y R (Xag _) h3 h1;rw[hw]at this;cases this;omega;rw[ZCj (h:=h) h2]at hw;cases hw;exact hmj
 have looks: ∀t∈o.looksAt ops,get (tmD D (Zd1 ops) v (s 0).tm ops.size) t=get (s j).tm t:=by intro t ht;have h1:get (tmD D (Zd1 ops) v (s 0).tm ops.size) t=get (tmD (λi=>decide (i<j)) (Zd1 ops) v (s 0).tm ops.size) t:=(by refine Zhm t _ λi hi bp=> ?_;obtain⟨x,hx⟩:=T.op hi;have a1:x.dst=some t:=(by simpa[Zd1,hx]using bp);rcases Nat.lt_trichotomy i j with h2|h2|h2;rcases early i x h2 hx with h3|h3;simp[h3,h2];exact absurd ht ((Oper.apart_spec h3.1).1 t a1);subst h2;simp[ae];cases ag:D i with|false=>simp;omega|true=>exact absurd ht ((Oper.apart_spec (late i x h2 hx ag)).2.2 t a1));rw[h1,ZkH (k:=j) _ (by omega) (λi h2 _=>by simp;omega),T.full j (by omega) (λi h2=>by simp[h2])]
 have a6: ∀t,get (tmD (λi=>D i||i==j) (Zd1 ops) v (s 0).tm ops.size) t=get (match o.dst with|some d=>(d,v j)::tmD D (Zd1 ops) v (s 0).tm ops.size|none=>tmD D (Zd1 ops) v (s 0).tm ops.size) t:=by intro t;cases hd:o.dst with|none=>exact Zzy (j:=j) (by simp) (λi hi=>ab i hi) (by simp[Zd1,ho,hd]) t _|some d=>refine Zv9 (j:=j) ae (by simp) (λi hi=>ab i hi) (by simp[Zd1,ho,hd]) t _ aq ?_;intro i h1 h2 h3 h4;obtain⟨y,R⟩:=T.op h2;exact(Oper.apart_spec (late i y h1 R h3)).2.1 d hd (by simpa[Zd1,R]using h4)
 have a7:=T.at_ j o ho;have aa: ∀ {φ':Phi} {S':Nat->Prop} {w':World} {u:Value},TRel φ' w' S' N (tmD D (Zd1 ops) v (s 0).tm ops.size) a->VRel φ' w' S' (v j) u->TRel φ' w' S' N (tmD (λi=>D i||i==j) (Zd1 ops) v (s 0).tm ops.size) (a.put o.dst u):=by intro φ' S' w' u ht hv;refine TRel.congr (Ziu (tm':=match o.dst with|some d=>(d,v j)::tmD D (Zd1 ops) v (s 0).tm ops.size|none=>tmD D (Zd1 ops) v (s 0).tm ops.size) ?_ ht hv) a6;have hp:=Zx0 a7.put;unfold Zf2;cases hd:o.dst with|none=>rfl|some d=>simp only[if_pos (hp.1 d hd).1]
 have stay: ∀ {φ':Phi} {S':Nat->Prop} {w':World} {a':Act},has j ls=true\/j<m->TRel φ' w' S' N (tmD (λi=>D i||i==j) (Zd1 ops) v (s 0).tm ops.size) a'->Inv φ' (s m).hp w' S' B->Evo (s 0).hp.length B φ S w φ' S' w'->
  (∀i,i<m->has i ls=false->D i=false->i≠j-> ∀id,(s i).hp.length<=id->id<(s (i+1)).hp.length->φ' id=none)->K a' w':=by
  intro φ' S' w' a' hc ht hI hE ar;refine hK b m φ' S' w' a' ⟨ht,I.seg,hI, ?_, ?_, ?_,I.evo.trans hE⟩;intro i h1 h2 h3 id h4 J;have U:i≠j:=(by rintro rfl;simp at h3);rw[ab i U]at h3;exact⟨ar i h1 h2 h3 U id h4 J,(I.un i h1 h2 h3 id h4 J).2⟩;intro i h1 h2 h3;have U:i≠j:=(by rintro rfl;rcases hc with hc|hc;rw[h3]at hc;cases hc;omega);show(D i||i==j)=false;rw[ab i U];exact I.hi i h1 h2 h3;intro i h1 h2;rcases I.lo i h1 h2 with h3|h3;exact .inl (by simp[h3]);exact .inr h3
 have left:has j ls=false->j=m-> ∀i,i<m->has i ls=false->D i=false-> ∃x,ops[i]? =some x/\isA x=true/\(ZgU o=true\/isW h o=false):=by intro hj C i h1 h2 h3;obtain⟨x,hx⟩:=T.op (i:=i) (by omega);obtain⟨_,y,R,hw⟩:=aj (by omega);rw[<-C,ho]at R;cases R;rcases early i x (by omega) hx with h4|⟨_,h4|⟨h4,_⟩|h4|h4⟩;rw[h3]at h4;cases h4;rw[h2]at h4;cases h4;rw[hj]at h4;cases h4;have:=(ZeR (h:=h) (ls:=ls) (ops:=ops) (i:=i) (by omega)).2.2.1 j o ho (by omega) h4 hj;rw[hw]at this;cases this;exact⟨x,hx,h4.1,h4.2⟩
 have move: ∀ {φ':Phi} {S':Nat->Prop} {w':World} {a':Act},has j ls=false->j=m->TRel φ' w' S' N (tmD (λi=>D i||i==j) (Zd1 ops) v (s 0).tm ops.size) a'->Inv φ' (s (j+1)).hp w' S' B->Evo (s 0).hp.length B φ S w φ' S' w'->
  (∀i,i<m->has i ls=false->D i=false-> ∀id,(s i).hp.length<=id->id<(s (i+1)).hp.length->φ' id=none/\FrzAt (s m).hp (s (j+1)).hp id)->K a' w':=by
  intro φ' S' w' a' hj C ht hI hE ar;have a8:j+1<=ops.size:=aq;obtain⟨n1,n2,n3,_⟩:=ZeR (h:=h) (ls:=ls) a8;have hF:=T.frz (i:=j+1) (Znl h ls ops (j+1)) n1 n2 λx y h1 h2 R h3=>n3 x y R h1 h2 h3;obtain⟨S2,bq,ba⟩:=hI.frz hF;have hlen:=T.len hG (i:=j+1) (Znl h ls ops (j+1)) n1 n2;refine hK (j+1) (Znl h ls ops (j+1)) φ' S2 w' a' ⟨ht.evo ba hI (Xag _),⟨a8,rfl⟩,bq, ?_, ?_, ?_,I.evo.trans (hE.trans (ba.mono (XaK (T.len hG j (Xap _) (by omega)) (T.len1 hG aq))))⟩;intro i h1 h2 h3 id h4 J;have U:i≠j:=(by rintro rfl;simp at h3);rw[ab i U]at h3;rcases Xa5 i j with h6|h6;obtain⟨h7,h8⟩:=ar i (by omega) h2 h3 id h4 J;exact⟨h7,((I.un i (by omega) h2 h3 id h4 J).2.trans h8).trans (hF.at id)⟩;have h7:=T.len hG (i:=j+1) i (by omega) (by omega);refine⟨?_,(T.frz (i:=i+1) (Znl h ls ops (j+1)) (by omega) n2 λx y g1 g2 R g3=>n3 x y R (by omega) g2 g3).at id⟩;(cases hc:φ' id with|none=>rfl|some l=>have:=(hI.live id l hc).2.2;omega);intro i h1 h2 h3;show(D i||i==j)=false;rw[ab i (by omega)];exact I.hi i (by omega) h2 h3;intro i h1 h2;by_cases U:i=j;exact .inl (by simp[U]);cases ag:D i with|true=>exact .inl (by simp[ag])|false=>obtain⟨x,hx,hA,_⟩:=left hj C i (by omega) h2 ag;exact .inr ⟨x,hx,hA⟩
 have ad:(s 0).hp.length<=(s m).hp.length:=T.len hG m (by omega) af;have hw:=Zqj (ops:=ops) looks;unfold wpOp;simp only[ho];rcases a7.kind with⟨h1,h2,h3⟩|⟨h1,h2,h3,h4⟩|⟨h1,h2,h3⟩;rw[Ze8 (hw.trans h1) I.tm];simp only[XaO,if_false];have hp:=aa I.tm (show VRel φ w S (v j) undef by rw[h2];exact ZeL);by_cases hc:has j ls=true\/j<m;exact stay hc hp I.inv (Evo.refl _ _ _ _ _) (λi h4 J h6 _ id h7 h8=>(I.un i h4 J h6 id h7 h8).1);have bs:has j ls=false:=by cases hh:has j ls<;>simp_all
 have C:j=m:=by omega
 refine move bs C hp (by rw[h3,C];exact I.inv) (Evo.refl _ _ _ _ _) λi h4 J h6 id h7 h8=>⟨(I.un i h4 J h6 id h7 h8).1, ?_⟩;rw[h3,C];exact λm hm=> .inl hm;rw[Ze8 (hw.trans h1) I.tm];simp only[if_true];left;have hl:ZaR P h E (s m).hp (ev (tmD D (Zd1 ops) v (s 0).tm ops.size)) o=some (v j):=by rw[Zmo (Zsk looks)];refine T.lt j o _ ho h2 h1 h3 m bn af λn y b7 bt R bc au=> ?_;have bu:n<b:=(by rcases Xa5 n b with h9|h9;exact h9;have:=ai n y R h9 bt bc;rw[au]at this;cases this);have bw:D n=true:=(by rcases I.lo n bu bc with h9|⟨y',bf,h9⟩;exact h9;rw[R]at bf;cases bf;rw[ZCj (h:=h) h9]at au;cases au);cases bx:Zev y j with|false=>rfl|true=>obtain⟨e,bz,b0,b1⟩:=ZuG bx;have:=ay n y R bw e bz b0;rw[b1,ae]at this;cases this
 unfold ZaR at hl;obtain⟨⟨q,ms,fz⟩,hr,hl⟩:=Zai hl;split at hl;rename_i q' heq;cases heq;cases hl;refine Zvn hG I.inv I.tm hr (λi m hm=>by simp at hm) (λid hid=>by simp at hid) ?_;intro u w' φ' S' J h6 h7 h8;refine stay (.inl h2) (aa (I.tm.evo h6 I.inv (Xag _)) h7) J (h6.mono ad) ?_;intro i h9 h10 ak _ id al an;rw[h8 id (by simp)];exact(I.un i h9 h10 ak id al an).1;cases hl;rw[Ze8 (hw.trans h1) I.tm];simp only[if_true];left;rw[<-Zyj (Zsk looks)]at h3;by_cases av:j<m;have b2:isW h o=false/\(b<=j\/isA o=true):=by rcases Xa5 j b with h4|h4;rcases I.lo j h4 h2 with J|⟨o',bg,J⟩;rw[ae]at J;cases J;rw[ho]at bg;cases bg;exact⟨ZCj J, .inr J⟩;exact⟨ai j o ho h4 av h2, .inl h4⟩
 obtain⟨hW,hA⟩:=b2;rw[Zup hW]at h3;unfold ZeI at h3;cases hr:opR P h E (s j).hp (s j).hp.length (ev (tmD D (Zd1 ops) v (s 0).tm ops.size)) o with|none=>simp[hr]at h3|some x=>obtain⟨q,ms,fz⟩:=x;simp only[hr,Xal,Xaf,Prod.mk.injEq]at h3;obtain⟨rfl,aw⟩:=h3;have b8:(s (j+1)).hp.length=(s j).hp.length+ms.length:=(by rw[<-aw];simp[ZaW]);have b3:opR P h E (s m).hp (s j).hp.length (ev (tmD D (Zd1 ops) v (s 0).tm ops.size)) o=some (v j,ms,fz):=(by rcases hA with hA|hA;exact Zsz (T.frz m (by omega) af λx y g1 g2 R g3=>ai x y R (by omega) g2 g3).sub hr;exact(ZGW hA hr _).1);refine Zvn hG I.inv I.tm b3 ?_ ?_ ?_;intro i x hx;have b9:=(Xae.1 hx).1;have h4:(s (j+1)).hp[(s j).hp.length+i]? =some x:=(by rw[<-aw,Xaz (by rw[ZaW];omega),ZaW,show(s j).hp.length+i-(s j).hp.length=i from by omega];exact hx);obtain⟨J,h6⟩:=I.un j av h2 ae ((s j).hp.length+i) (by omega) (by omega);rcases h6 _ h4 with h6|⟨es,z,b,rfl,h6⟩;exact⟨x,h6, .inl rfl,J⟩;exact⟨_,h6, .inr ⟨es,z,b,rfl,rfl⟩,J⟩;intro id hid l es z bb hl hm;rcases hA with hA|hA;have b4:Frz (s (j+1)).hp (s m).hp:=T.frz m (by omega) af λx y g1 g2 R g3=>ai x y R (by omega) g2 g3;have ao:=ZG8 hr id hid;obtain⟨m0,ax⟩: ∃m0,(s j).hp[id]? =some m0:=⟨(s j).hp[id],by simp[ao]⟩;have hb:bb=false:=(by obtain⟨m1,bh,ca⟩:=ZdC fz (s j).hp id m0 ax;have h4:(s (j+1)).hp[id]? =some m1:=(by rw[<-aw,Xam (by rw[ZaW];exact ao)];exact bh);rcases b4.2 id m1 h4 with J|⟨es',z',b',_,J⟩;rw[hm]at J;cases J;exact ZkV fz _ id hid _ _ _ bh;rw[hm]at J;cases J;rfl);subst hb;exact(I.inv.row id l es z false hl hm).frz rfl;have:=(ZGW hA hr []).2;simp only at this;rw[this]at hid;cases hid;intro u w' φ' S' J h6 h7 h8;refine stay (.inr av) (aa (I.tm.evo h6 I.inv (Xag _)) h7) J (h6.mono ad) ?_;intro i h9 h10 ak al id an bj;have:φ' id=φ id:=(by apply h8;rcases Nat.lt_or_gt_of_ne al with h15|h15;have:=T.len hG (i:=i+1) j (by omega) (by omega);omega;have:=T.len hG (i:=j+1) i (by omega) (by omega);omega);rw[this];exact(I.un i h9 h10 ak id an bj).1
 have C:j=m:=by omega
 have hs:(s j).hp=(s m).hp:=by rw[C]
 have bk:(s 0).hp.length<=(s j).hp.length:=by rw[hs];exact ad
 cases bl:ZgU o with|true=>have b5:isW h o=true:=(by obtain⟨_,y,R,hw⟩:=aj (by omega);rw[<-C,ho]at R;cases R;exact hw);rw[Zv6 b5]at h3;refine ZEw hG bl (by rw[hs];exact I.inv) I.tm h3 ?_;intro u w' φ' S' h4 J h6 h7;refine move h2 C (aa (I.tm.evo J I.inv (by rw[hs];exact Xag _)) h6) h4 (J.mono bk) ?_;intro i h8 h9 h10 id ak al;have an:=(I.un i h8 h9 h10 id ak al).1;have bj:=T.len hG (i:=i+1) j (by omega) (by omega);obtain⟨h15,b6⟩:=h7 id (by omega) an;exact⟨h15,λm0 ax=>b6 m0 (by rw[hs];exact ax)⟩|false=>refine ZBq hG (by rw[hs];exact I.inv) I.tm h3 ?_;intro u w' φ' S' h4 J h6;refine move h2 C (aa (I.tm.evo J I.inv (by rw[hs];exact Xag _)) h6) h4 (J.mono bk) ?_;intro i h7 h8 h9 _ _ _;obtain⟨_,_,_,h10⟩:=left h2 C i h7 h8 h9;obtain⟨_,y,R,hw⟩:=aj (by omega);rw[<-C,ho]at R;cases R;rw[bl,hw]at h10;rcases h10 with h10|h10<;>cases h10
def ZtS {l:List Nat} {p q:Nat->Bool} {j:Nat} (h: ∀x,q x=true->p x=true) (hj:j∈l) (C:p j=true) (I:q j=false):l.countP q<l.countP p:=by induction l with|nil=>simp at hj|cons x l J=>rw[List.countP_cons,List.countP_cons];have hle:l.countP q<=l.countP p:=List.countP_mono_left λy _ R=>h y R;rcases Xau.1 hj with rfl|hj;simp[C,I];omega;have:=J hj;cases U:q x with|false=>simp;split<;>omega|true=>simp[h x U];omega
def Zz0 (hG:Good P h E) (hd:ZhY h ls ops=true) (T:Tr P h E N ops ls s v)
 (hQ: ∀a' w' φ' S',Inv φ' (s ops.size).hp w' S' B->Evo (s 0).hp.length B φ0 S0 w0 φ' S' w'->TRel φ' w' S' N (s ops.size).tm a'->Q .normal a' w'):
 ∀ (fuel:Nat) (listed:Array Bool) (b m:Nat) (φ:Phi) (S:Nat->Prop) (w:World) (a:Act),listed.size=ops.size->ZgF ops (λi=>listed.getD i false)->DInv h N ops ls s v B φ0 S0 w0 (λi=>listed.getD i false) b m φ S w a->
   (List.range ops.size).countP (λi=> !listed.getD i false)<=fuel->wpAny P .any ops Q fuel listed a w:=by
 have done: ∀ (listed:Array Bool) (b m:Nat) (φ:Phi) (S:Nat->Prop) (w:World) (a:Act),listed.size=ops.size->DInv h N ops ls s v B φ0 S0 w0 (λi=>listed.getD i false) b m φ S w a->(∀i,i<ops.size->listed.getD i false=true)->Q .normal a w:=by intro listed b m φ S w a J I C;obtain⟨_,ah,_,al⟩:=ZeR (h:=h) (ls:=ls) I.seg.1;rw[<-I.seg.2]at ah al;have an:(s ops.size).hp=(s m).hp:=(by refine T.lights ops.size ah (Xag _) λx h1 h2=> ?_;cases U:has x ls with|true=>rfl|false=>have:=I.hi x h1 h2 U;have aa:=C x h2;rw[show listed.getD x false=false from this]at aa;cases aa);have ao:=T.full (D:=λi=>listed.getD i false) ops.size (Xag _) C;exact hQ a w φ S (by rw[an];exact I.inv) I.evo (by rw[<-ao];exact I.tm)
 have all: ∀ (listed:Array Bool),listed.size=ops.size->Region.ready .any ops listed=[]-> ∀i,i<ops.size->listed.getD i false=true:=by intro listed J hr i;induction i using Nat.strongRecOn with|ind i ih=>intro hi;cases hc:listed.getD i false with|true=>rfl|false=>exfalso;have ab:i∈Region.ready .any ops listed:=(by rw[mem_ready];refine⟨?_,ops[i],by simp[hi],λe he hb=> ?_⟩;have:i<listed.size:=(by omega);simpa[this]using hc;have:=(Zkw hd).1 i ops[i] (by simp[hi]) e he hb;exact ih e.on this (by omega));rw[hr]at ab;simp at ab
 intro fuel;induction fuel with
 |zero=>
  intro listed b m φ S w a J ae I hc;have C: ∀i,i<ops.size->listed.getD i false=true:=by intro i hi;cases U:listed.getD i false with|true=>rfl|false=>have:0<(List.range ops.size).countP (λi=> !listed.getD i false):=List.countP_pos_iff.2 ⟨i,by simpa using hi,by simp only[U,Bool.not_false]⟩;omega
  refine⟨?_,done listed b m φ S w a J I C⟩;cases hr:Region.ready .any ops listed with|nil=>rfl|cons x r=>have U:x∈Region.ready .any ops listed:=(by rw[hr];exact Xai);obtain⟨h1,o,ho,_⟩:=mem_ready.1 U;have af:=(Xbk.1 ho).1;have h2:=C x af;have h3:x<listed.size:=(by omega);simp[h3]at h1 h2;rw[h1]at h2;cases h2
 |succ fuel ih=>intro listed b m φ S w a J ae I hc;refine⟨λhr=>done listed b m φ S w a J I (all listed J hr),λj hj=> ?_⟩;obtain⟨h1,o,ho,C⟩:=mem_ready.1 hj;have af:=(Xbk.1 ho).1;have ai:j<listed.size:=(by omega);have aj:listed.getD j false=false:=(by simpa[ai]using h1);have R:(λi=>(listed.setIfInBounds j true).getD i false)=λi=>listed.getD i false||i==j:=(by funext i;by_cases ag:i=j;subst ag;simp[ai];rw[getD_set_ne false (λe=>ag e.symm)];simp[ag]);have ad:ZgF ops λi=>listed.getD i false||i==j:=(by intro x y hy U e he hb;show(listed.getD e.on false||e.on==j)=true;have aq:(listed.getD x false||x==j)=true:=U;by_cases ak:x=j;subst ak;rw[ho]at hy;cases hy;simp only[C e he hb,Bool.true_or];have:listed.getD x false=true:=(by simpa only[show(x==j)=false from by simpa using ak,Bool.or_false]using aq);have:=ae x y hy this e he hb;simp only[show listed.getD e.on false=true from this,Bool.true_or]);refine ZvT hG hd T I ae ho aj ad ?_;intro b' m' φ' S' w' a' I';refine ih _ b' m' φ' S' w' a' (by simpa using J) (by rw[R];exact ad) (by rw[R];exact I') ?_;have:(List.range ops.size).countP (λi=> !(listed.setIfInBounds j true).getD i false)<(List.range ops.size).countP (λi=> !listed.getD i false):=(by refine ZtS (j:=j) (λx U=> ?_) (by simpa using af) (by simp only[aj,Bool.not_false]) ?_;rw[show(listed.setIfInBounds j true).getD x false=(listed.getD x false||x==j)from congrFun R x]at U;(cases ar:listed.getD x false with|true=>simp only[ar,Bool.true_or,Bool.not_true]at U;cases U|false=>rfl);rw[show(listed.setIfInBounds j true).getD j false=(listed.getD j false||j==j)from congrFun R j];simp);omega
def ZD2 (hG:Good P h E) (hd:ZhY h ls ops=true) {I R:St} (aa:Zbv P h E N ops ls ops.toList 0 [] I=some R) (hI:Inv φ I.hp w S B) (ht:TRel φ w S N I.tm a)
 (hQ: ∀a' w' φ' S',Inv φ' R.hp w' S' B->Evo I.hp.length B φ S w φ' S' w'->TRel φ' w' S' N R.tm a'->Q .normal a' w'):wpAny P .any ops Q ops.size (Array.replicate ops.size false) a w:=by
 obtain⟨s,rfl,rfl,hs,_,ab⟩:=ZHe ops.toList 0 [] I R rfl (Xap _) aa (by simp);have hv: ∀i,∃u,∀o,ops[i]? =some o->At P h E N ops ls i o (s i) (s (i+1)) u:=by intro i;cases J:ops[i]? with|none=>exact⟨.nilp,by simp⟩|some o=>obtain⟨u,hu⟩:=ZrK (hs i o (Xap _) J);exact⟨u,λo' ad=>by cases ad;exact hu⟩
 obtain⟨v,hv⟩:=Classical.axiomOfChoice hv;have T:Tr P h E N ops ls s v:=⟨λi o J=>hv i o J,λj o u J hb hw hl m hm ae hq=>ab j o u (Xap _) J hb hw hl m hm ae hq⟩;obtain⟨_,n2,n3,_⟩:=ZeR (h:=h) (ls:=ls) (ops:=ops) (i:=0) (Xap _);have af:=T.frz (i:=0) (Znl h ls ops 0) (Xap _) n2 λx y h1 U hy h3=>n3 x y hy h1 U h3;obtain⟨S1,h1,U⟩:=hI.frz af;have C:(λi=>(Array.replicate ops.size false).getD i false)=λ_=>false:=by funext i;by_cases hi:i<ops.size<;>simp[hi]
 refine Zz0 hG hd T (φ0:=φ) (S0:=S) (w0:=w) hQ ops.size _ 0 (Znl h ls ops 0) φ S1 w a (by simp) (by rw[C];intro j o _ h;cases h) ?_ (XaK List.countP_le_length (by simp));rw[C];refine⟨?_,⟨Xap _,rfl⟩,h1, ?_,λ_ _ _ _=>rfl,λi h3=>by omega,U⟩;rw[ZkH (k:=0) _ (Xap _) λ_ _ _=>rfl];exact ht.evo U hI (Xag _);intro i h3 _ _ id h4 _;refine⟨?_,(T.frz (i:=i+1) (Znl h ls ops 0) (by omega) n2 λx y g1 g2 hy g3=>n3 x y hy (by omega) g2 g3).at id⟩;cases hc:φ id with|none=>rfl|some l=>have:=(hI.live id l hc).2.2;have:=T.len hG (i:=0) i (Xap _) (by omega);omega
end
def Zvt (π:List Nat) (n:Nat):Bool:=
 match π with
 | []=>true
 |i::r=>Nat.beq (i::r).length n&&(List.range n).all λj=>Nat.blt ((i::r).getD j n) n&&Nat.beq (ZdZ (i::r) ((i::r).getD j n)) j&&Nat.blt (ZdZ (i::r) j) n&&Nat.beq ((i::r).getD (ZdZ (i::r) j) n) j
section
variable {P:Program} {Q:Exit->Act->World->Prop} {ops ops':Array Oper} {π:List Nat}
def Zpd (j:Nat) (l:List Nat) (i:Nat):ZdZ (j::l) i=bif Nat.beq i j then 0 else ZdZ l i+1:=rfl
def Zwi: ∀ (l:List Nat) (i:Nat),ZdZ l i<=l.length
 | [],_=>Xag _
 |j::l,i=>by rw[Zpd];cases Nat.beq i j with|true=>exact Xap _|false=>exact Nat.succ_le_succ (Zwi l i)
def Zee: ∀ {l:List Nat} {i:Nat},ZdZ l i<l.length->l[ZdZ l i]? =some i
 | [],_,h=>absurd h (Xa1 _)
 |j::l,i,h=>by rw[Zpd]at h|-;cases C:Nat.beq i j with|true=>rw[Xar C];rfl|false=>rw[C]at h;simp only[cond_false,Xaq]at h|-;rw[XaP];exact Zee (by omega)
def ZoG (π:List Nat) (ops:Array Oper): ∀ {l:List Nat},(∀i∈l,i<ops.size)-> ∀j:Nat,(Ziy π ops l)[j]? =(l[j]?).bind λi=>(ops[i]?).map (ZwY π)
 | [],_,j=>by simp[Ziy]
 |i::l,h,j=>by
  have hi:=h i Xai;have C:ops[i]? =some ops[i]:=(by simp[hi]);have e:Ziy π ops (i::l)=match ops[i]? with|some o=>ZwY π o::Ziy π ops l|none=>Ziy π ops l:=rfl
  rw[e,C];cases j with|zero=>simp[C]|succ j=>simp only[XaP];exact ZoG (l:=l) π ops (λx I=>h x (Xaj _ I)) j
def ZrX {π:List Nat}: ∀ {l:List Edge} {e:Edge},e∈ZEz π l<-> ∃d∈l,e=⟨ZdZ π d.on,d.ground⟩
 | [],e=>by simp[ZEz]
 |d::l,e=>by have h:ZEz π (d::l)=⟨ZdZ π d.on,d.ground⟩::ZEz π l:=rfl;rw[h,Xau,ZrX (l:=l)];constructor;rintro(rfl|⟨x,h1,j⟩);exact⟨d,Xai,rfl⟩;exact⟨x,Xaj _ h1,j⟩;rintro⟨x,h1,j⟩;rcases Xau.1 h1 with rfl|h1;exact .inl j;exact .inr ⟨x,h1,j⟩
structure Reord (ops ops':Array Oper) (π:List Nat):Prop where
 size:ops'.size=ops.size
 len:π.length=ops.size
 at_: ∀i,i<ops.size->ZdZ π i<ops.size/\ops'[ZdZ π i]? =(ops[i]?).map (ZwY π)
 back: ∀j,j<ops.size-> ∃i,i<ops.size/\ZdZ π i=j
def ZAk {i:Nat} {r:List Nat} (h:Zvt (i::r) ops.size=true):Reord ops (rgo (i::r) ops) (i::r):=by
 obtain⟨π,R⟩: ∃π,i::r=π:=⟨_,rfl⟩;have h:(Nat.beq (i::r).length ops.size&&(List.range ops.size).all λj=>Nat.blt ((i::r).getD j ops.size) ops.size&&Nat.beq (ZdZ (i::r) ((i::r).getD j ops.size)) j&&Nat.blt (ZdZ (i::r) j) ops.size&&Nat.beq ((i::r).getD (ZdZ (i::r) j) ops.size) j)=true:=h;have hr:rgo (i::r) ops=(Ziy (i::r) ops (i::r)).toArray:=rfl;rw[hr];rw[R]at h|-;simp only[Xah,Xaw,Xba]at h;obtain⟨U,h2⟩:=h;have U:=Xar U;have I: ∀j,j<ops.size->((π.getD j ops.size<ops.size/\ZdZ π (π.getD j ops.size)=j)/\ZdZ π j<ops.size)/\π.getD (ZdZ π j) ops.size=j:=λj C=>by obtain⟨⟨⟨a,b⟩,c⟩,d⟩:=h2 j C;exact⟨⟨⟨Xao a,Xar b⟩,Xao c⟩,Xar d⟩
 have hm: ∀x∈π,x<ops.size:=by intro x J;obtain⟨j,C,rfl⟩:=List.getElem_of_mem J;have:=(I j (by omega)).1.1.1;rw[Xan,Xad C]at this;exact this
 have hg:=ZoG (l:=π) π ops hm;have hlen:(Ziy π ops π).length=ops.size:=by apply Nat.le_antisymm;rcases Xa5 ops.size (Ziy π ops π).length with h|h;have:=hg ops.size;rw[Xad h,Xax (by omega)]at this;cases this;exact h;rcases Xa5 (Ziy π ops π).length ops.size with h|h;have h3:=hg (Ziy π ops π).length;rw[Xax (Xag _),Xad (by omega)]at h3;have h4:=hm _ (XaI (show(Ziy π ops π).length<π.length by omega));simp[h4]at h3;exact h
 refine⟨by simpa using hlen,U,λx J=>⟨(I x J).1.2, ?_⟩,λj C=>⟨π.getD j ops.size,(I j C).1.1.1,(I j C).1.1.2⟩⟩;have h3:=(I x J).1.2;have h4:=Zee (l:=π) (i:=x) (by omega);have h5:=hg (ZdZ π x);rw[h4,Xaa]at h5;simpa using h5
def ZCe (o:Oper) (a:Act) (w:World) (K:Act->World->Prop):(ZwY π o).wp P a w K Q=o.wp P a w K Q:=rfl
def ZwT (o:Oper) (a:Act) (w:World):(ZwY π o).asks P a w=o.asks P a w:=rfl
def Zwd (R:Reord ops ops' π) (g:Nat):(ops'[ZdZ π g]?).bind (·.dst)=(ops[g]?).bind (·.dst):=by
 by_cases j:g<ops.size;rw[(R.at_ g j).2];have I:ops[g]? =some ops[g]:=by simp[j]
 rw[I];rfl;have J:ops[g]? =none:=by simp;omega
 have U:ZdZ π g=π.length:=by rcases Xa5 (ZdZ π g) π.length with h|h;obtain⟨i,hi,e⟩:=R.back (ZdZ π g) (by rw[<-R.len];exact h);have e1:=Zee h;have C:=Zee (l:=π) (i:=i) (by rw[e];exact h);rw[e,e1]at C;cases C;exact absurd hi j;exact Nat.le_antisymm (Zwi π g) h
 rw[J,U,R.len,<-R.size];simp
def Zox (R:Reord ops ops' π) (o:Oper) (tmps:Array Value):Region.wanted (ZwY π o) (yielded ops' tmps)=Region.wanted o (yielded ops tmps):=by cases C:o.guard with|none=>have:(ZwY π o).guard=none:=(by show(match o.guard with|some (j,b)=>some (ZdZ π j,b)|none=>none)=none;rw[C]);simp only[Region.wanted,this,C]|some I=>obtain⟨j,b⟩:=I;have:(ZwY π o).guard=some (ZdZ π j,b):=(by show(match o.guard with|some (j,b)=>some (ZdZ π j,b)|none=>none)=_;rw[C]);have J:=Zwd R j;simp only[Region.wanted,this,C,yielded,J]
def Ztj {l:Array Bool} {g:Nat} (h:l.size<=g):l.getD g false=false:=by rw[XbP,Array.getElem?_eq_none h];rfl
def Lst (n:Nat) (π:List Nat) (l j:Array Bool):Prop:=l.size=n/\j.size=n/\ ∀i,i<n->j.getD (ZdZ π i) false=l.getD i false
def ZwS {n:Nat} {l C:Array Bool} (R:Reord ops ops' π) (j:Lst ops.size π l C) (g:Nat):C.getD (ZdZ π g) false=l.getD g false:=by
 by_cases I:g<ops.size;exact j.2.2 g I;have U:l.getD g false=false:=Ztj (by have:=j.1;omega);have h2: ¬ZdZ π g<ops.size:=by intro h;obtain⟨i,hi,e⟩:=R.back (ZdZ π g) h;have e1:=Zee (l:=π) (i:=g) (by rw[R.len];exact h);have J:=Zee (l:=π) (i:=i) (by rw[e,R.len];exact h);rw[e,e1]at J;cases J;exact I hi
 have h3:=j.2.1;rw[U];exact Ztj (by omega)
def Zj1 {listed:Array Bool} {i:Nat} (U:listed.size=ops.size):i∈Region.ready .any ops listed<->i<ops.size/\listed.getD i false=false/\ ∃o,ops[i]? =some o/\ ∀e∈o.after,Region.binds .any e=true->listed.getD e.on false=true:=by
 unfold Region.ready;rw[XbF,Xba];constructor;rintro⟨I,j⟩;have J:ops[i]? =some ops[i]:=by simp[I]
 rw[J]at j;simp only[Xal,XbH,Xah]at j;refine⟨I, ?_,_,J,λe he R=> ?_⟩;have C:=j.1;have hi:i<listed.size:=by omega
 simpa[hi]using C;have C:=j.2;rw[Array.all_eq_true']at C;have:=C e he;simpa[R]using this;rintro⟨I,j,o,J,C⟩;refine⟨I, ?_⟩;rw[J];simp only[Xal,XbH,Xah];refine⟨?_, ?_⟩;have hi:i<listed.size:=by omega
 simpa[hi]using j;rw[Array.all_eq_true'];intro e he;cases R:Region.binds .any e with|false=>rfl|true=>simpa using C e he R
def ZlI {o:Oper} {e:Edge}:e∈(ZwY π o).after<-> ∃d∈o.after,e=⟨ZdZ π d.on,d.ground⟩:=by show e∈(ZEz π o.after.toList).toArray<->_;rw[List.mem_toArray,ZrX];simp
def Zqo (R:Reord ops ops' π) {l C:Array Bool} (j:Lst ops.size π l C) {i:Nat} (hi:i<ops.size):ZdZ π i∈Region.ready .any ops' C<->i∈Region.ready .any ops l:=by
 rw[Zj1 (by rw[j.2.1,R.size]),Zj1 j.1,R.size];have J:=R.at_ i hi;have U:=j.2.2 i hi;have ho:ops[i]? =some ops[i]:=by simp[hi]
 rw[J.2,ho,U];simp only[Xal,J.1,hi,true_and,Xaf,exists_eq_left'];refine and_congr_right λ_=> ?_;constructor;intro h e he I;have:=h ⟨ZdZ π e.on,e.ground⟩ (ZlI.2 ⟨e,he,rfl⟩) I;rw[<-ZwS (n:=0) R j e.on];exact this;intro h e he I;obtain⟨d,hd,rfl⟩:=ZlI.1 he;show C.getD (ZdZ π d.on) false=true;rw[ZwS (n:=0) R j d.on];exact h d hd I
def ZAH (R:Reord ops ops' π) {i j:Nat} (hi:i<ops.size) (h:ZdZ π i=ZdZ π j):i=j:=by have C:=Zee (l:=π) (i:=i) (by rw[R.len];exact(R.at_ i hi).1);have I:=Zee (l:=π) (i:=j) (by rw[<-h,R.len];exact(R.at_ i hi).1);rw[h,I]at C;exact(Xbc C).symm
def ZCB (R:Reord ops ops' π) {l I:Array Bool} (C:Lst ops.size π l I) {i:Nat} (hi:i<ops.size):Lst ops.size π (l.setIfInBounds i true) (I.setIfInBounds (ZdZ π i) true):=by refine⟨by simpa using C.1,by simpa using C.2.1,λj J=> ?_⟩;have h1:=C.1;have h2:=C.2.1;have U:=C.2.2 j J;have h4:=(R.at_ i hi).1;have h5:=(R.at_ j J).1;by_cases e:i=j;subst e;simp[show i<l.size by omega,show ZdZ π i<I.size by omega];have e2:ZdZ π i≠ZdZ π j:=λh=>e (ZAH R hi h);simp only[XbP,Array.getElem?_setIfInBounds_ne e,Array.getElem?_setIfInBounds_ne e2]at U|-;exact U
def ZvX (R:Reord ops ops' π) {l C:Array Bool} (I:Lst ops.size π l C):Region.ready .any ops' C=[]<->Region.ready .any ops l=[]:=by
 constructor;intro h;cases J:Region.ready .any ops l with|nil=>rfl|cons i r=>have hm:i∈Region.ready .any ops l:=(by rw[J];exact Xai);have:=(Zqo R I ((Zj1 I.1).1 hm).1).2 hm;rw[h]at this;cases this
 intro h;cases J:Region.ready .any ops' C with|nil=>rfl|cons j r=>have hm:j∈Region.ready .any ops' C:=(by rw[J];exact Xai);have U:=((Zj1 (by rw[I.2.1,R.size])).1 hm).1;obtain⟨i,hi,rfl⟩:=R.back j (by rw[<-R.size];exact U);have:=(Zqo R I hi).1 hm;rw[h]at this;cases this
def Zlz (R:Reord ops ops' π): ∀ (fuel:Nat) (l J:Array Bool) (a:Act) (w:World),Lst ops.size π l J->wpAny P .any ops' Q fuel J a w->wpAny P .any ops Q fuel l a w
 |0,l,J,a,w,I,h=>⟨(ZvX R I).1 h.1,h.2⟩
 |fuel+1,l,J,a,w,I,h=>by refine⟨λhr=>h.1 ((ZvX R I).2 hr),λi hi=> ?_⟩;have j:=((Zj1 I.1).1 hi).1;have C:=h.2 (ZdZ π i) ((Zqo R I j).2 hi);have U:ops[i]? =some ops[i]:=(by simp[j]);unfold wpOp at C|-;rw[(R.at_ i j).2,U]at C;rw[U];simp only[Xal]at C|-;rw[Zox R,ZCe,ZwT]at C;have hd:(ZwY π ops[i]).dst=ops[i].dst:=rfl;rw[hd]at C;have ih:=λa w=>Zlz R fuel (l.setIfInBounds i true) (J.setIfInBounds (ZdZ π i) true) a w (ZCB R I j);split at C;rename_i hw;rw[if_pos hw];exact C.imp (Oper.wp_mono λa w=>ih a w) id;rename_i hw;rw[if_neg hw];exact ih _ _ C
def Zwr {a:Act} {w:World} (hp:Zvt π ops.size=true) (h:wpAny P .any (rgo π ops) Q (rgo π ops).size (Array.replicate (rgo π ops).size false) a w):wpAny P .any ops Q ops.size (Array.replicate ops.size false) a w:=by cases π with|nil=>exact h|cons i r=>have R:=ZAk hp;rw[R.size]at h;refine Zlz R _ _ _ a w ⟨by simp,by simp,λj C=> ?_⟩ h;have:=(R.at_ j C).1;simp[C,this]
end
variable [Laid]
def Zbq (h:Hints) (fid:Nat):Code->Bool
 | .region id ops draw=>bif draw then ZhY h (h.light fid id) (rgo (h.perm fid id) ops)&&Zvt (h.perm fid id) ops.size else(h.light fid id).isEmpty&&(h.perm fid id).isEmpty
 | .seq a b=>Zbq h fid a&&Zbq h fid b
 | .cond _ a b=>Zbq h fid a&&Zbq h fid b
 | .block _ b=>Zbq h fid b
 | .loop b=>Zbq h fid b
 |_=>true
def ZmV (P:Program) (h:Hints) (f:Nat):Bool:=
 match P.funcs[f]? with
 |some fn=>match fn.body with
  |some c=> !(fn.name== "runtime.NumGoroutine")&&Zbq h f c
  |none=>false
 |none=>false
structure Static (P:Program) (h:Hints):Prop where
 mixed:P.follows .mixedOrders=true
 fns: ∀f,h.ok f=true->ZmV P h f=true
 prims: ∀f,(h.prim f).isSome=true->ZBi P f
section
variable {P:Program} {h:Hints} {E:Ev}
def Zd5 (N:Nat) (ops:Array Oper): ∀ (l:List Oper) (i:Nat) (s:St),Zbv P h E N ops [] l i [] s=Zfi P h E N ops l s
 | [],_,_=>rfl
 |o::l,i,s=>by show(Zhd P h E N ops [] i o s).bind (λj=>(ZdY P h E (Zcw h o []) j.hp).bind λ_=>Zbv P h E N ops [] l (i+1) (Zcw h o []) j)=(Zdr P h E N ops o s).bind λs=>Zfi P h E N ops l s;have:Zhd P h E N ops [] i o s=Zdr P h E N ops o s:=rfl;rw[this];congr 1;funext s;show(ZdY P h E (Zcw h o []) s.hp).bind (λ_=>Zbv P h E N ops [] l (i+1) (Zcw h o []) s)=_;rw[Zwn];exact Zd5 N ops l (i+1) s
def Zea (hG:Good P h E) {N:Nat} {ops:Array Oper} {ls:List Nat}: ∀ (l:List Oper) (i:Nat) (acc:List (Nat×Oper×List (Nat×PV)×PV)) (s j:St),Zbv P h E N ops ls l i acc s=some j->s.hp.length<=j.hp.length
 | [],_,_,s,j,h=>by cases h;exact Xag _
 |o::l,i,acc,s,j,h=>by obtain⟨s1,I,C⟩:=ZfF h;have J:s1.hp.length<=j.hp.length:=(by rcases C with⟨_,_,_,C⟩|⟨_,_,C⟩;exact Zea hG l (i+1) _ s1 j C;exact Zea hG l (i+1) _ s1 j C);refine XaK ?_ J;obtain⟨v,R⟩:=ZrK I;rcases R.kind with⟨_,_,e⟩|⟨_,_,_,e⟩|⟨_,_,e⟩;rw[e];exact Xag _;rw[e];exact Xag _;exact Zp2 hG e
def Hyp (c:Cx) (s:St) (e:Ex) (j:St) (R:(Exit->Act->World->Prop)->Act->World->Prop):Prop:=
 ∀φ S w a B,Inv φ s.hp w S B->TRel φ w S c.N s.tm a->c.base<=s.hp.length-> ∀Q:Exit->Act->World->Prop,
 (∀C w' φ' S',Inv φ' j.hp w' S' B->Evo c.base B φ S w φ' S' w'->TRel φ' w' S' c.N j.tm C->c.base<=j.hp.length->Q (conv e) C w')->R Q a w
def Zna (P:Program) (h:Hints) (E:Ev):Prop:= ∀ (c:Cx) (code:Code) (s:St) (e:Ex) (j:St),E.ex c code s=some (e,j)->Zbq h c.fid code=true->
 Hyp c s e j (λQ a w=>code.wp P Q a w)/\ ∀b,code= .loop b-> ∃r,Hyp c s e j λQ a w=>Code.rounds P b Q r a w
def Zpq (hS:Static P h) (hG:Good P h E) {c:Cx} {id:Nat} {ops:Array Oper} {draw:Bool} {s J:St} (I:ZsP P h E c.N (h.light c.fid id) (rgo (h.perm c.fid id) ops) s=some J)
 (C:Zbq h c.fid (.region id ops draw)=true) {φ:Phi} {S:Nat->Prop} {w:World} {a:Act} {B:Nat} (hI:Inv φ s.hp w S B) (ht:TRel φ w S c.N s.tm a) (hb:c.base<=s.hp.length) {Q:Exit->Act->World->Prop}
 (hQ: ∀U w' φ' S',Inv φ' J.hp w' S' B->Evo c.base B φ S w φ' S' w'->TRel φ' w' S' c.N J.tm U->c.base<=J.hp.length->Q .normal U w'):(Code.region id ops draw).wp P Q a w:=by
 have j:Zbv P h E c.N (rgo (h.perm c.fid id) ops) (h.light c.fid id) (rgo (h.perm c.fid id) ops).toList 0 [] s=some J:=by unfold ZsP at I;split at I;rename_i hl;rw[hl,Zd5];exact I;exact I
 have hlen:=Zea hG _ _ _ _ _ j;cases draw with|true=>simp only[Zbq,cond_true,Xah]at C;apply wp_region_any hS.mixed;refine Zwr C.2 ?_;have R:Below w.heap.size w {w with drawn:=w.drawn+1}:=⟨rfl,rfl,rfl,Xag _,λ_ _=>rfl⟩;obtain⟨h1,h2⟩:=hI.foreign R;refine ZD2 hG C.1 j h1 (ht.evo h2 hI (Xag _)) ?_;intro U w' φ' S' h3 h4 h5;exact hQ U w' φ' S' h3 ((h2.mono hb).trans (h4.mono hb)) h5 (by omega)|false=>simp only[Zbq,cond_false,Xah,XbS]at C;rw[C.1,C.2,Zd5]at j;apply wp_region;exact ZlT hG c.base ops.toList 0 s J φ S a w rfl j hI ht hb hQ
def ZD4 (hS:Static P h) (hG:Good P h E) (hX:Zna P h E):Zna P h (step P h E):=by
 intro c code s e s' C J;cases code with
 |loop b=>
  simp only[step]at C;have aa:Zbq h c.fid b=true:=(by simpa only[Zbq]using J);obtain⟨s0,h0,C⟩:=Zai C;obtain⟨⟨e1,s1⟩,h1,h2⟩:=Zai C;have main: ∃r,Hyp c s e s' λQ a w=>Code.rounds P b Q r a w:=by cases e1 with|normal=>simp only[]at h2;obtain⟨r,hr⟩:=(hX c (.loop b) s1 e s' h2 J).2 b rfl;refine⟨r+1, ?_⟩;intro φ S w a B hI U hb Q R;obtain⟨φ0,ab,ad,ae,af⟩:=Ze2 h0 hI U hb;refine(hX c b s0 _ s1 h1 aa).1 φ0 S w a B ab ad ae _ ?_;intro a1 w1 I S1 h3 h4 h5 h6;simp only[conv,Exit.then];refine hr I S1 w1 a1 B h3 h5 h6 Q ?_;intro a2 w2 ag S2 h7 h8 h9 ah;exact R a2 w2 ag S2 h7 ((af.trans h4).trans h8) h9 ah|exit id=>simp only[Xaf,Prod.mk.injEq]at h2;obtain⟨rfl,rfl⟩:=h2;refine⟨1, ?_⟩;intro φ S w a B hI U hb Q R;obtain⟨φ0,ab,ad,ae,af⟩:=Ze2 h0 hI U hb;exact(hX c b s0 _ s1 h1 aa).1 φ0 S w a B ab ad ae _ λa1 w1 I S1 h3 h4 h5 h6=>R a1 w1 I S1 h3 (af.trans h4) h5 h6|ret=>simp only[Xaf,Prod.mk.injEq]at h2;obtain⟨rfl,rfl⟩:=h2;refine⟨1, ?_⟩;intro φ S w a B hI U hb Q R;obtain⟨φ0,ab,ad,ae,af⟩:=Ze2 h0 hI U hb;exact(hX c b s0 _ s1 h1 aa).1 φ0 S w a B ab ad ae _ λa1 w1 I S1 h3 h4 h5 h6=>R a1 w1 I S1 h3 (af.trans h4) h5 h6
  obtain⟨r,hr⟩:=main;exact⟨λφ S w a B hI U hb Q R=>wp_loop_rounds r (hr φ S w a B hI U hb Q R),λb' ai=>by cases ai;exact⟨r,hr⟩⟩
 |skip=>refine⟨?_,by simp⟩;intro φ S w a B hI U hb Q R;simp only[step,Xaf,Prod.mk.injEq]at C;obtain⟨rfl,rfl⟩:=C;exact wp_skip (R a w φ S hI (Evo.refl _ _ _ _ _) U hb)
 |label l=>refine⟨?_,by simp⟩;intro φ S w a B hI U hb Q R;simp only[step,Xaf,Prod.mk.injEq]at C;obtain⟨rfl,rfl⟩:=C;exact wp_label (R a w φ S hI (Evo.refl _ _ _ _ _) U hb)
 |exit id=>refine⟨?_,by simp⟩;intro φ S w a B hI U hb Q R;simp only[step,Xaf,Prod.mk.injEq]at C;obtain⟨rfl,rfl⟩:=C;exact wp_exit (R a w φ S hI (Evo.refl _ _ _ _ _) U hb)
 |ret=>refine⟨?_,by simp⟩;intro φ S w a B hI U hb Q R;simp only[step,Xaf,Prod.mk.injEq]at C;obtain⟨rfl,rfl⟩:=C;exact wp_ret (R a w φ S hI (Evo.refl _ _ _ _ _) U hb)
 |region id ops draw=>refine⟨?_,by simp⟩;intro φ S w a B hI U hb Q R;simp only[step]at C;cases hr:ZsP P h E c.N (h.light c.fid id) (rgo (h.perm c.fid id) ops) s with|none=>rw[hr]at C;simp at C|some s1=>rw[hr]at C;simp only[Xal,Xaf,Prod.mk.injEq]at C;obtain⟨rfl,rfl⟩:=C;exact Zpq hS hG hr J hI U hb R
 |seq x y=>refine⟨?_,by simp⟩;intro φ S w a B hI U hb Q R;simp only[step]at C;simp only[Zbq,Xah]at J;obtain⟨⟨e1,s1⟩,h1,h2⟩:=Zai C;refine wp_seq ?_;cases e1 with|normal=>simp only[]at h2;refine(hX c x s _ s1 h1 J.1).1 φ S w a B hI U hb _ ?_;intro a1 w1 I S1 h3 h4 h5 h6;simp only[conv,Exit.then];refine(hX c y s1 e s' h2 J.2).1 I S1 w1 a1 B h3 h5 h6 Q ?_;intro a2 w2 ag S2 h7 h8 h9 ah;exact R a2 w2 ag S2 h7 (h4.trans h8) h9 ah|exit id=>simp only[Xaf,Prod.mk.injEq]at h2;obtain⟨rfl,rfl⟩:=h2;exact(hX c x s _ s1 h1 J.1).1 φ S w a B hI U hb _ λa1 w1 I S1 h3 h4 h5 h6=>R a1 w1 I S1 h3 h4 h5 h6|ret=>simp only[Xaf,Prod.mk.injEq]at h2;obtain⟨rfl,rfl⟩:=h2;exact(hX c x s _ s1 h1 J.1).1 φ S w a B hI U hb _ λa1 w1 I S1 h3 h4 h5 h6=>R a1 w1 I S1 h3 h4 h5 h6
 |cond x y z=>refine⟨?_,by simp⟩;intro φ S w a B hI U hb Q R;simp only[step]at C;simp only[Zbq,Xah]at J;obtain⟨v,h1,h2⟩:=Zai C;(cases v<;>simp only[]at h2<;>try (cases h2;done));rename_i t;have hv:=Zaw U h1;simp only[VRel]at hv;refine wp_cond hv ?_;refine(hX c _ s e s' h2 ?_).1 φ S w a B hI U hb Q R;cases t;exact J.2;exact J.1
 |block id b=>refine⟨?_,by simp⟩;intro φ S w a B hI U hb Q R;simp only[step]at C;simp only[Zbq]at J;obtain⟨⟨e1,s1⟩,h1,h2⟩:=Zai C;refine wp_block ?_;refine(hX c b s _ s1 h1 J).1 φ S w a B hI U hb _ ?_;intro a1 w1 I S1 h3 h4 h5 h6;have out:(Zft (h.keepB c.fid id) c s1).map (λaj=>(Ex.normal,aj))=some (e,s')->Q .normal a1 w1:=(by intro hx;cases hm:Zft (h.keepB c.fid id) c s1 with|none=>simp[hm]at hx|some s2=>simp only[hm,Xal,Xaf,Prod.mk.injEq]at hx;obtain⟨rfl,rfl⟩:=hx;obtain⟨ag,g1,g2,g3,g4⟩:=Ze2 hm h3 h5 h6;exact R a1 w1 ag S1 g1 (h4.trans g4) g2 g3);cases e1 with|normal=>exact out h2|ret=>simp only[Xaf,Prod.mk.injEq]at h2;obtain⟨rfl,rfl⟩:=h2;exact R a1 w1 I S1 h3 h4 h5 h6|exit j=>simp only[conv,Exit.inBlock];by_cases hj:j=id;simp only[if_pos hj]at h2|-;exact out h2;simp only[if_neg hj,Xaf,Prod.mk.injEq]at h2|-;obtain⟨rfl,rfl⟩:=h2;exact R a1 w1 I S1 h3 h4 h5 h6
 |_=>simp[step]at C
def ZqK {l:List PV} {vs:Array Value} {φ:Phi} {w:World} {S:Nat->Prop} (j:VL φ w S l vs.toList):VRel φ w S (ZbM l) (if h:vs.size=1 then vs[0]else .tuple vs):=by have hlen:=VL.length j;match l,j with| [],j=>simp only[ZbM,VRel];have:vs.size=0:=(by simpa using hlen);rw[dif_neg (by omega)];exact⟨vs,rfl,j⟩| [p],j=>simp only[VL]at j;obtain⟨v,r,C,I,rfl⟩:=j;have:vs= #[v]:=(by apply Array.ext';simpa using C);subst this;simpa[ZbM]using I|p::q::r,j=>simp only[ZbM,VRel];have:vs.size=r.length+2:=(by simpa using hlen);rw[dif_neg (by omega)];exact⟨vs,rfl,j⟩
def ZAG (tmps:Array Value):ResultVar->Sem Value
 | .tmp t=>pure (tmps.getD t undef)
 | .cell a t=>do loadVar t (<-asAddr (tmps.getD a undef))
def ZtR (fn:Func) (tmps:Array Value):results fn tmps=(do let vs <-fn.results.mapM (ZAG tmps);pure (if h:vs.size=1 then vs[0]else .tuple vs)):=rfl
def Ze7 {fn:Func} {tm:List (Nat×PV)} {H:List Mem} {vs:List PV} {φ:Phi} {S:Nat->Prop} {w:World} {B N:Nat} {a:Act} (hr:Za4 (Zjp P tm H) fn.results.toList=some vs) (hI:Inv φ H w S B) (ht:TRel φ w S N tm a):
 ∃u,(results fn a.tmps).run P w= .ok u w/\VRel φ w S (ZbM vs) u:=by
 have gen: ∀ (l:List ResultVar) (vs:List PV),Za4 (Zjp P tm H) l=some vs->
  ∃us,(l.mapM (ZAG a.tmps)).run P w= .ok us w/\VL φ w S vs us:=by
  intro l;induction l with
  |nil=>intro vs h;simp[Zcr]at h;subst h;exact⟨[],by simp,by simp only[VL]⟩
  |cons x l ih=>
   intro vs h;obtain⟨p,ps,C,J,rfl⟩:=ZaF h;obtain⟨us,h3,h4⟩:=ih ps J;cases x with
   |tmp t=>have:=(ht.2.2 t p C).2;refine⟨a.tmps.getD t undef::us, ?_,_,us,rfl,this,h4⟩;rw[List.mapM_cons];simp only[ZAG,Sem.run_bind,Sem.run_pure,Result.andThen_ok,h3]
   |cell x t=>
    simp only[Zjp]at C;obtain⟨q,h5,R⟩:=Zai C;have j:=(ht.2.2 x q h5).2;obtain⟨u,h7,h8⟩:=ZiY hI R j;refine⟨u::us, ?_,u,us,rfl,h8,h4⟩;have: ∃U,a.tmps.getD x undef= .pointer (some U):=by(cases q<;>simp only[Zb2]at R<;>try (cases R;done));simp only[VRel]at j;obtain⟨l,_,j⟩:=j;exact⟨_,j⟩;simp only[VRel,IRel]at j;obtain⟨b,o,j,_⟩:=j;exact⟨_,j⟩
    obtain⟨U,I⟩:=this;rw[I]at h7;have h9:(loadVar t U).run P w= .ok u w:=(by simpa[Instr.loadAt,Instr.sureAddr]using h7);rw[List.mapM_cons];simp only[ZAG,I,asAddr,Sem.run_bind,Sem.run_pure,Result.andThen_ok,h9,h3]
 obtain⟨us,C,J⟩:=gen _ _ hr;refine⟨if h:us.toArray.size=1 then us.toArray[0]else .tuple us.toArray, ?_,ZqK (by simpa using J)⟩;rw[ZtR,Array.mapM_eq_mapM_toList];simp only[Sem.run_bind,Sem.run_pure,Result.andThen_ok,Sem.run_map,C]
def ZqD {f:FuncId} {args:List PV} {H H':List Mem} {v:PV} (j:(step P h E).rn f args H=some (v,H')):
 ∃fn code e s vs,h.ok f=true/\P.funcs[f]? =some fn/\fn.body=some code/\args.length<=fn.ntmps/\E.ex ⟨f,H.length,fn.ntmps⟩ code ⟨enterT 0 args,H⟩=some (e,s)/\(e= .normal\/e= .ret)/\
  Za4 (Zjp P s.tm s.hp) fn.results.toList=some vs/\v=ZbM vs/\H'=s.hp:=by
 simp only[step]at j;obtain⟨I,j⟩:=Zak j;split at j;rename_i fn hf;split at j;rename_i code hb;obtain⟨hn,j⟩:=Zak j;obtain⟨⟨e,s⟩,h1,j⟩:=Zai j;have C: ∀ {x:Option (List PV)},x.map (λvs=>(ZbM vs,s.hp))=some (v,H')-> ∃vs,x=some vs/\v=ZbM vs/\H'=s.hp:=by intro x J;cases x with|none=>simp at J|some vs=>simp at J;exact⟨vs,rfl,J.1.symm,J.2.symm⟩
 cases e with|exit id=>cases j|normal=>obtain⟨vs,R,U,h4⟩:=C j;exact⟨fn,code,_,s,vs,I,hf,hb,hn,h1, .inl rfl,R,U,h4⟩|ret=>obtain⟨vs,R,U,h4⟩:=C j;exact⟨fn,code,_,s,vs,I,hf,hb,hn,h1, .inr rfl,R,U,h4⟩
 cases j;cases j
def ZCx (E:Ev):Prop:= ∀ (c:Cx) (code:Code) (s:St) (e:Ex) (j:St),E.ex c code s=some (e,j)->c.base<=s.hp.length->c.base<=j.hp.length
def Zn2 {k:Option (List Nat×Bool)} {c:Cx} {s st:St} (j:Zft k c s=some st) (C:c.base<=s.hp.length):c.base<=st.hp.length:=by unfold Zft at j;split at j;cases j;exact C;rename_i ks comp;cases comp with|true=>simp only[if_true]at j;obtain⟨I,_⟩:=Zak j;omega|false=>simp only[XaO,if_false,Xaf]at j;subst j;exact C
def Zuc (hG:Good P h E) (U:ZCx E):ZCx (step P h E):=by intro c code s e s' C R;cases code with|skip=>simp only[step,Xaf,Prod.mk.injEq]at C;rw[<-C.2];exact R|label l=>simp only[step,Xaf,Prod.mk.injEq]at C;rw[<-C.2];exact R|exit id=>simp only[step,Xaf,Prod.mk.injEq]at C;rw[<-C.2];exact R|ret=>simp only[step,Xaf,Prod.mk.injEq]at C;rw[<-C.2];exact R|region id ops draw=>(simp only[step]at C;cases hr:ZsP P h E c.N (h.light c.fid id) (rgo (h.perm c.fid id) ops) s with|none=>rw[hr]at C;simp at C|some s1=>rw[hr]at C;simp only[Xal,Xaf,Prod.mk.injEq]at C;rw[<-C.2];have aa:Zbv P h E c.N (rgo (h.perm c.fid id) ops) (h.light c.fid id) (rgo (h.perm c.fid id) ops).toList 0 [] s=some s1:=(by unfold ZsP at hr;split at hr;rename_i hl;rw[hl,Zd5];exact hr;exact hr);exact XaK R (Zea hG _ _ _ _ _ aa))|seq x y=>(simp only[step]at C;obtain⟨⟨e1,s1⟩,h1,I⟩:=Zai C;have J:=U _ _ _ _ _ h1 R;cases e1 with|normal=>exact U _ _ _ _ _ I J|exit id=>simp only[Xaf,Prod.mk.injEq]at I;rw[<-I.2];exact J|ret=>simp only[Xaf,Prod.mk.injEq]at I;rw[<-I.2];exact J)|cond x y z=>simp only[step]at C;obtain⟨v,h1,I⟩:=Zai C;(cases v<;>simp only[]at I<;>try (cases I;done));exact U _ _ _ _ _ I R|block id b=>(simp only[step]at C;obtain⟨⟨e1,s1⟩,h1,I⟩:=Zai C;have J:=U _ _ _ _ _ h1 R;have out:(Zft (h.keepB c.fid id) c s1).map (λab=>(Ex.normal,ab))=some (e,s')->c.base<=s'.hp.length:=(by intro hx;cases hm:Zft (h.keepB c.fid id) c s1 with|none=>simp[hm]at hx|some s2=>simp only[hm,Xal,Xaf,Prod.mk.injEq]at hx;obtain⟨rfl,rfl⟩:=hx;exact Zn2 hm J);cases e1 with|normal=>exact out I|ret=>simp only[Xaf,Prod.mk.injEq]at I;rw[<-I.2];exact J|exit j=>simp only[]at I;split at I;exact out I;simp only[Xaf,Prod.mk.injEq]at I;rw[<-I.2];exact J)|loop b=>(simp only[step]at C;obtain⟨s0,h0,C⟩:=Zai C;obtain⟨⟨e1,s1⟩,h1,I⟩:=Zai C;have ad:c.base<=s0.hp.length:=Zn2 h0 R;have J:=U _ _ _ _ _ h1 ad;cases e1 with|normal=>exact U _ _ _ _ _ I J|exit id=>simp only[Xaf,Prod.mk.injEq]at I;rw[<-I.2];exact J|ret=>simp only[Xaf,Prod.mk.injEq]at I;rw[<-I.2];exact J)|_=>simp[step]at C
def Zy6 {f:FuncId} (hf:ZmV P h f=true):ZBi P f:=by unfold ZmV at hf;split at hf;rename_i fn j;split at hf;rename_i c C;simp only[Xah,XbJ]at hf;exact⟨fn,j,by simp[C],hf.1⟩;cases hf;cases hf
def ZuE {f:FuncId} {fn:Func} {c:Code} (hf:ZmV P h f=true) (j:P.funcs[f]? =some fn) (C:fn.body=some c):Zbq h f c=true:=by unfold ZmV at hf;simp only[j,C,Xah]at hf;exact hf.2
def ZCk (hS:Static P h) (hX:Zna P h E):Zqu P (step P h E):=by
 intro f args H v H' hr φ S w B vals hI U;obtain⟨fn,code,e,s,vs,R,hf,hb,hn,h1,h2,h3,rfl,rfl⟩:=ZqD hr;apply calls_of_wp hf hb;have aa:=VL.length U;refine(hX _ code _ e s h1 (ZuE (hS.fns f R) hf hb)).1 φ S w _ B hI ?_ (Xag _) _ ?_;refine⟨by simp;omega,rfl, ?_⟩;intro i p hp;obtain⟨_,C⟩:=ZeO args 0 i p hp;simp only[Nat.sub_zero]at C;obtain⟨u,I,J⟩:=VL.get U C;have hi:=(Xae.1 I).1;refine⟨by show i<fn.ntmps;omega, ?_⟩;have:(vals.toArray++Array.replicate (fn.ntmps-vals.toArray.size) undef).getD i undef=u:=by rw[XbP,Array.getElem?_append_left (by simpa using hi)];simp[I]
 rw[this];exact J;intro a' w' φ' S' C I J _;obtain⟨u,h8,h9⟩:=Ze7 (P:=P) h3 C J;have j:a'.defers=[]/\ ∃v,(results fn a'.tmps).run P w'= .ok v w'/\ZDD s.hp H.length B φ S w (ZbM vs) (.returned v) w':=
   ⟨J.2.1,u,h8,u,φ',S',rfl,C,I,h9⟩
 rcases h2 with rfl|rfl;exact j;exact j
def ZdN (hS:Static P h) (J:ZbX P h): ∀n,Good P h (Zfh P h n)/\Zna P h (Zfh P h n)/\ZCx (Zfh P h n)
 |0=>⟨⟨λf args H v H' j=>(by cases j),J,λf args H v H' j=>(by cases j),λf hf=>hf.elim (λ⟨_,_,_,j⟩=>(by cases j)) (hS.prims f)⟩,
   λc code s e s' C=>(by cases C),λc code s e s' C=>by cases C⟩
 |n+1=>by obtain⟨R,U,h3⟩:=ZdN hS J n;refine⟨⟨ZCk hS U,J, ?_, ?_⟩,ZD4 hS R U,Zuc R h3⟩;intro f args H v H' j;obtain⟨fn,code,e,s,vs,I,hf,hb,hn,h4,h5,h6,rfl,rfl⟩:=ZqD j;exact h3 _ _ _ _ _ h4 (Xag _);rintro f (⟨args,H,⟨v,H'⟩,j⟩|hp);obtain⟨fn,code,e,s,vs,I,_⟩:=ZqD j;exact Zy6 (hS.fns f I);exact hS.prims f hp
end
variable [Laid]
inductive Ty where
 |bool
 |int (k:IntKind)
 |str
 |slice (e:Ty) (bytes:Nat)
 |agg (ps:List Ty)
 deriving Inhabited
mutual
def Zb5:Ty->List PV->Prop
 | .bool,cs=> ∃b,cs=[.bool b]
 | .int k,cs=> ∃n,cs=[.int k n]/\(Lit.int k n).wf=true
 | .str,cs=> ∃s,cs=[.str s]/\s.size<=reachBytes
 | .slice e bytes,cs=>cs=[.nils]\/ ∃es,cs=[.lst es]/\es.length<=maxLen/\es.length*bytes<=reachBytes/\ ∀c∈es,Zb5 e c
 | .agg ps,cs=>HasTys ps cs
def HasTys:List Ty->List PV->Prop
 | [],cs=>cs=[]
 |p::ps,cs=> ∃a b,cs=a++b/\Zb5 p a/\HasTys ps b
end
def ZhL (P:Program) (j:Nat) (rec:TypeId->Option Ty):List (Nat×TypeId)->Nat->Option (List Ty)
 | [],off=>if off=j then some []else none
 |(o,t)::r,off=>if o=off then(rec t).bind λx=>(ZhL P j rec r (off+P.cellsOf t)).map (x:: ·)else none
def Zl0 (P:Program) (t:TypeId):Option (List (Nat×TypeId)):=
 match P.underlying t with
 |some (.struct j)=>some (j.toList.map λf=>(f.offset,f.type))
 |some (.array n e)=>some ((List.range n).map λi=>(i*P.cellsOf e,e))
 |_=>none
def ZoX (P:Program):Nat->TypeId->Option Ty
 |0,_=>none
 |n+1,t=>match P.underlying t with
  |some .bool=>some .bool
  |some (.int k)=>some (.int k)
  |some .string=>some .str
  |some (.slice e)=>(ZoX P n e).bind λx=>if 0<P.cellsOf e then some (.slice x (P.bytesOf e))else none
  |_=>(Zl0 P t).bind λj=>(ZhL P (P.cellsOf t) (ZoX P n) j 0).map .agg
section
variable {H:Type} {enc:TypeId × Value->H} {P:Program} {w:World} {S:Nat->Prop}
def Zki: ∀ {l m:List PV} {vs us:List Value},LRel w S l vs->LRel w S m us->LRel w S (l++m) (vs++us)
 | [],_,_,_,h,j=>by simp only[LRel]at h;subst h;simpa using j
 |p::ps,_,_,_,h,j=>by simp only[LRel]at h;obtain⟨v,r,rfl,C,I⟩:=h;show LRel w S (p::(ps++_)) (v::(r++_));simp only[LRel];exact⟨v,_,rfl,C,Zki I j⟩
def Zg6: ∀ {l:List PV} {vs:List Value},LRel w S l vs->l.length=vs.length
 | [],_,h=>by simp only[LRel]at h;subst h;rfl
 |p::ps,_,h=>by simp only[LRel]at h;obtain⟨v,r,rfl,_,j⟩:=h;simp[Zg6 j]
def ZsY: ∀ {l:List PV} {vs:List Value} {b o:Nat},LRel w S l vs->(∀c∈l,ZcT c=true)->(∀ (j:Nat) (v:Value),vs[j]? =some v->w.cell? ⟨b,o+j,none⟩=some v)->CsRel w S l b o
 | [],_,_,_,_,_,_=>by simp only[CsRel]
 |p::ps,vs,b,o,h,C,I=>by simp only[LRel]at h;obtain⟨v,r,rfl,J,R⟩:=h;simp only[CsRel];exact⟨⟨C p Xai,v,by simpa using I 0 v rfl,J⟩,ZsY R (λc hm=>C c (Xaj _ hm)) λj u U=>by rw[<-I (j+1) u (by simpa using U)];congr 2;omega⟩
def Zs5 {z:Nat}: ∀ {l:List (List PV)} {b o:Nat},(∀c∈l,c.length=z)->(∀ (i:Nat) (c:List PV),l[i]? =some c->CsRel w S c b (o+i*z))->EsRel w S l b o
 | [],_,_,_,_=>by simp only[EsRel]
 |c::cs,b,o,C,h=>by simp only[EsRel];refine⟨by simpa using h 0 c rfl,Zs5 (λx j=>C x (Xaj _ j)) λi x j=> ?_⟩;have I:=h (i+1) x (by simpa using j);rw[show o+c.length+i*z=o+(i+1)*z from by rw[C c Xai,Xbv];omega];exact I
def Lim (P:Program) (t:TypeId) (d:DataW H):Prop:= ∀n∈d.weights P t,n<=reachBytes
def ZgY: ∀ {ds:List (DataW H)} {e:TypeId} {d:DataW H},d∈ds-> ∀n∈d.weights P e,n∈DataW.weightsAll P e ds
 |x::ds,e,d,hd,n,j=>by simp only[DataW.weightsAll,XaJ];rcases Xau.1 hd with rfl|hd;exact .inl j;exact .inr (ZgY hd n j)
def Got (w:World) (ty:Ty) (cs:List Value):Prop:= ∃qs,Zb5 ty qs/\LRel w (λb=>b<w.heap.size) qs cs/\ ∀q∈qs,ZcT q=true
def ZnT {α:Type} (rec:TypeId->Option Ty) (f:TypeId->List Value->Option (DataW H×List MemPlace)) (C: ∀t ty,rec t=some ty-> ∀cs d ps,f t cs=some (d,ps)->(∀x∈ps,x.block<w.heap.size)->Lim P t d->Got w ty cs) (cs:List Value) (g:α->Nat×TypeId):
 ∀ (l:List α) (off:Nat) (tys:List Ty) (xs:List (DataW H×List MemPlace)),ZhL P cs.length rec (l.map g) off=some tys->l.mapM (λx=>f (g x).2 ((cs.drop (g x).1).take (P.cellsOf (g x).2)))=some xs->
   (∀x∈xs,∀p∈x.2,p.block<w.heap.size)->(∀ (i:Nat) (a:α) (x:DataW H×List MemPlace),l[i]? =some a->xs[i]? =some x->Lim P (g a).2 x.1)->
   ∃qs,HasTys tys qs/\LRel w (λb=>b<w.heap.size) qs (cs.drop off)/\ ∀q∈qs,ZcT q=true
 | [],off,tys,xs,j,hm,_,_=>by simp only[List.map_nil,ZhL]at j;obtain⟨U,j⟩:=Zak j;cases j;exact⟨[],by simp only[HasTys],by rw[U];simp[LRel],by simp⟩
 |a::l,off,tys,xs,j,hm,hp,hl=>by simp only[XaX]at j;rw[show g a=((g a).1,(g a).2)from rfl]at j;simp only[ZhL]at j;obtain⟨U,j⟩:=Zak j;obtain⟨ty,h1,j⟩:=Zai j;cases hr:ZhL P cs.length rec (l.map g) (off+P.cellsOf (g a).2)with|none=>simp[hr]at j|some R=>simp only[hr,Xal,Xaf]at j;subst j;rw[List.mapM_cons]at hm;cases I:f (g a).2 ((cs.drop (g a).1).take (P.cellsOf (g a).2))with|none=>rw[I]at hm;simp at hm|some x=>rw[I]at hm;cases J:l.mapM (λx=>f (g x).2 ((cs.drop (g x).1).take (P.cellsOf (g x).2)))with|none=>rw[J]at hm;simp at hm|some aa=>rw[J]at hm;simp at hm;subst hm;obtain⟨q1,h2,h3,h4⟩:=C _ _ h1 _ x.1 x.2 I (hp x Xai) (hl 0 a x rfl rfl);obtain⟨q2,h5,h6,h7⟩:=ZnT rec f C cs g l _ R aa hr J (λy hy=>hp y (Xaj _ hy)) (λi b y hb hy=>hl (i+1) b y (by simpa using hb) (by simpa using hy));refine⟨q1++q2,⟨q1,q2,rfl,h2,h5⟩, ?_, ?_⟩;rw[U]at h3;have:=Zki h3 h6;rw[show cs.drop (off+P.cellsOf (g a).2)=(cs.drop off).drop (P.cellsOf (g a).2)from by rw[Xbm],Xa9]at this;exact this;intro q hq;rcases XaJ.1 hq with hq|hq;exact h4 q hq;exact h7 q hq
def Zrr: ∀ (n:Nat) (t:TypeId) (ty:Ty),ZoX P n t=some ty-> ∀ (fuel:Nat) (cs:List Value) (d:DataW H) (ps:List MemPlace),DataW.trod enc P w 0 (λ_=>true) true fuel t cs=some (d,ps)->
 (∀x∈ps,x.block<w.heap.size)->Lim P t d->Got w ty cs
 |0,t,ty,h=>by simp[ZoX]at h
 |n+1,t,ty,h=>by
  have ih:=Zrr n;intro fuel cs d ps C ab U;cases fuel with
  |zero=>simp[DataW.trod]at C
  |succ fuel=>
   have ah: ∀J,Zl0 P t=some J->(Zl0 P t).bind (λJ=>(ZhL P (P.cellsOf t) (ZoX P n) J 0).map Ty.agg)=some ty->Got w ty cs:=by
    intro J I hb;rw[I,Xaa]at hb;cases ae:ZhL P (P.cellsOf t) (ZoX P n) J 0 with
    |none=>simp[ae]at hb
    |some tys=>
     simp only[ae,Xal,Xaf]at hb;subst hb;unfold Zl0 at I;split at I;rename_i fs hu;cases I;simp only[DataW.trod,hu]at C;obtain⟨hlen,C⟩:=Zak C;cases hm:fs.toList.mapM (λf=>DataW.trod enc P w 0 (λ_=>true) true fuel f.type ((cs.drop f.offset).take (P.cellsOf f.type)))with
      |none=>rw[hm]at C;simp at C
      |some xs=>
       rw[hm]at C;simp only[Xal,Xaf,Prod.mk.injEq]at C;obtain⟨rfl,rfl⟩:=C;have au:=mapM_some_length hm;obtain⟨qs,h1,h2,R⟩:=ZnT (w:=w) (P:=P) (ZoX P n) (λt cs=>DataW.trod enc P w 0 (λ_=>true) true fuel t cs) (λt ty h1 cs d ps h2 R h4=>ih t ty h1 fuel cs d ps h2 R h4) cs (λf:Field=>(f.offset,f.type)) fs.toList 0 tys xs (by rw[hlen];exact ae) hm
        (λx hx p hp=>ab p (XaZ.2 ⟨x,hx,hp⟩))
        (λi a x ha hx m hm=>U m (by
         simp only[DataW.weights,hu];exact DataW.weights_mem_each (j:=i) (by simp[ha]) (by simp[hx]) m hm))
       exact⟨qs,by simp only[Zb5];exact h1,by simpa using h2,R⟩
     rename_i k e hu;cases I;simp only[DataW.trod,hu]at C;obtain⟨hlen,C⟩:=Zak C;cases hm:(List.range k).mapM (λi=>DataW.trod enc P w 0 (λ_=>true) true fuel e ((cs.drop (i*P.cellsOf e)).take (P.cellsOf e)))with
      |none=>rw[hm]at C;simp at C
      |some xs=>
       rw[hm]at C;simp only[Xal,Xaf,Prod.mk.injEq]at C;obtain⟨rfl,rfl⟩:=C;obtain⟨qs,h1,h2,R⟩:=ZnT (w:=w) (P:=P) (ZoX P n) (λt cs=>DataW.trod enc P w 0 (λ_=>true) true fuel t cs) (λt ty h1 cs d ps h2 R h4=>ih t ty h1 fuel cs d ps h2 R h4) cs (λi:Nat=>(i*P.cellsOf e,e)) (List.range k) 0 tys xs (by rw[hlen];exact ae) hm
        (λx hx p hp=>ab p (XaZ.2 ⟨x,hx,hp⟩))
        (λi a x _ hx m hm=>U m (by
         simp only[DataW.weights,hu];exact ZgY (Xbu (XaF hx)) m hm))
       exact⟨qs,by simp only[Zb5];exact h1,by simpa using h2,R⟩
     cases I
   have one: ∀ {v:Value} {q:PV},Zb5 ty [q]->IRel w (λb=>b<w.heap.size) q v->ZcT q=true->cs=[v]->Got w ty cs:=by intro v q h1 h2 R h4;subst h4;exact⟨[q],h1,by simp only[LRel];exact⟨v,[],rfl,h2,rfl⟩,by simpa using R⟩
   unfold ZoX at h;split at h;·rename_i hu;cases h;match cs,C with| [.bool b],C=>exact one (v:= .bool b) (q:= .bool b) (by simp[Zb5]) (by simp only[IRel]) rfl rfl| [],C=>simp[DataW.trod,hu]at C|v::u::r,C=>cases v<;>simp[DataW.trod,hu]at C| [.int _ _],C| [.float _ _],C| [.string _],C| [.pointer _],C| [.slice _ _ _],C| [.agg _],C| [.tuple _],C| [.nilFunc],C| [.map _],C| [.func _ _ _],C=>simp[DataW.trod,hu]at C| [v],C=>cases v<;>first|(simp[DataW.trod,hu]at C;done)|(rename_i b;exact one (v:= .bool b) (q:= .bool b) (by simp[Zb5]) (by simp only[IRel]) rfl rfl)
   ·rename_i k hu;cases h;match cs,C with| [],C=>simp[DataW.trod,hu]at C|v::u::r,C=>cases v<;>simp[DataW.trod,hu]at C| [v],C=>(cases v<;>try (simp[DataW.trod,hu]at C;done));rename_i k' m;simp only[DataW.trod,hu]at C;obtain⟨⟨rfl,hw⟩,C⟩:=Zak C;exact one (v:= .int k' m) (q:= .int k' m) (by simp only[Zb5];exact⟨m,rfl,hw⟩) (by simp only[IRel]) rfl rfl
   ·rename_i hu;cases h;match cs,C with| [],C=>simp[DataW.trod,hu]at C|v::u::r,C=>cases v<;>simp[DataW.trod,hu]at C| [v],C=>(cases v<;>try (simp[DataW.trod,hu]at C;done));rename_i s;simp only[DataW.trod,hu]at C;obtain⟨_,C⟩:=Zak C;cases C;have:=U s.data.toList.length (by simp[DataW.weights]);exact one (v:= .string s) (q:= .str s) (by simp only[Zb5];exact⟨s,rfl,by rw[Array.length_toList]at this;exact this⟩) (by simp only[IRel]) rfl rfl
   ·rename_i e hu;obtain⟨et,h1,h⟩:=Zai h;obtain⟨hz,h⟩:=Zak h;cases h;match cs,C with
    | [],C=>simp[DataW.trod,hu]at C
    |v::u::r,C=>cases v<;>simp[DataW.trod,hu]at C
    | [v],C=>
     (cases v<;>try (simp[DataW.trod,hu]at C;done));rename_i ao len cap;cases ao with
     |none=>
      cases len<;>cases cap<;>first
       |(simp[DataW.trod,hu]at C;done)
       |exact one (v:= .slice none 0 0) (q:= .nils) (by simp[Zb5]) (by simp only[IRel]) rfl rfl
     |some ad=>
      simp only[DataW.trod,hu]at C;obtain⟨⟨_,aj,av⟩,C⟩:=Zak C;obtain⟨elems,hm,C⟩:=Zai C;have fin: ∀ {X:Option (List (DataW H×List MemPlace))},(X.map λrest=>(DataW.slice (elems.map λx=>x.1) (rest.map λx=>x.1),MemPlace.row ad ((elems.length+rest.length)*P.cellsOf e)++(elems++rest).flatMap λx=>x.2))=some (d,ps)->
       ∃rest:List (DataW H×List MemPlace),DataW.slice (elems.map λx=>x.1) (rest.map λx=>x.1)=d/\MemPlace.row ad ((elems.length+rest.length)*P.cellsOf e)++(elems++rest).flatMap (λx=>x.2)=ps:=by
       intro X hX;cases X with|none=>cases hX|some rest=>simp only[Xal,Xaf,Prod.mk.injEq]at hX;exact⟨rest,hX.1,hX.2⟩
      obtain⟨rest,rfl,rfl⟩:=fin C;have ak:elems.length=len:=(by have:=mapM_some_length hm;simpa using this);have each: ∀i,∃q,i<len->Zb5 et q/\(∀c∈q,ZcT c=true)/\ ∃vals,w.cells? 0 (ad.add (i*P.cellsOf e)) (P.cellsOf e)=some vals/\LRel w (λb=>b<w.heap.size) q vals:=by
       intro i;by_cases hi:i<len;have h2:=mapM_some_get hm i i (by simp[hi]);obtain⟨x,hx⟩: ∃x,elems[i]? =some x:=⟨elems[i],by simp[ak,hi]⟩;rw[hx]at h2;obtain⟨vals,R,h4⟩:=Zai h2;obtain⟨q,h5,h6,h7⟩:=ih e et h1 fuel vals x.1 x.2 h4
         (λp hp=>ab p (XaT _ (XaZ.2 ⟨x,Xa8 _ (XaF hx),hp⟩)))
         (λm hm=>U m (by
          simp only[DataW.weights,hu,Xau,XaJ];exact .inr (.inl (ZgY (Xbu (XaF hx)) m hm))))
       exact⟨q,λ_=>⟨h5,h7,vals,R,h6⟩⟩;exact⟨[],λh=>absurd h hi⟩
      obtain⟨q,hq⟩:=Classical.axiomOfChoice each;have al:=U ((elems.length+rest.length)*P.bytesOf e) (by simp[DataW.weights,hu]);have aa:((List.range len).map q).length=len:=(by simp);refine one (v:= .slice (some ad) len cap) (q:= .lst ((List.range len).map q)) ?_ ?_ rfl rfl;simp only[Zb5];refine .inr ⟨_,rfl,by rw[aa];omega, ?_, ?_⟩;rw[aa];exact XaK (Xbx _ (by omega)) al;intro c hc;obtain⟨i,hi,rfl⟩:=XaU.1 hc;exact(hq i (by simpa using hi)).1;simp only[IRel];refine⟨ad,cap,by rw[aa],by rw[aa];exact aj, ?_⟩;by_cases an:len=0;left;subst an;rfl;right;obtain⟨b,o,spot⟩:=ad;have af:spot=none:=by obtain⟨_,_,vals,R,_⟩:=hq 0 (by omega);obtain⟨_,h5,h6⟩:=World.cells?_some R;have h7:=h6 0 hz;obtain⟨v0,aq⟩: ∃v0,vals[0]? =some v0:=⟨vals[0],by simp[h5,hz]⟩;rw[aq]at h7;have:=World.cell?_spot h7;simpa[Addr.add]using this
      subst af;have ai: ∀m,(⟨b,o,none⟩:Addr).add m=⟨b,o+m,none⟩:=by intro m;unfold Addr.add;split;rename_i h0;subst h0;rfl;rfl
      refine⟨b,o,P.cellsOf e,rfl, ?_, ?_,Zs5 (z:=P.cellsOf e) ?_ ?_⟩;have:MemPlace.cell b o∈MemPlace.row ⟨b,o,none⟩ ((elems.length+rest.length)*P.cellsOf e):=(by simp only[MemPlace.row,XaU,Xba];exact⟨0,Nat.mul_pos (by omega) hz,by simp⟩);exact ab _ (Xa8 _ this);intro c hc;obtain⟨i,hi,rfl⟩:=XaU.1 hc;obtain⟨_,_,vals,R,h4⟩:=hq i (by simpa using hi);rw[Zg6 h4,(World.cells?_some R).2.1];intro c hc;obtain⟨i,hi,rfl⟩:=XaU.1 hc;obtain⟨_,_,vals,R,h4⟩:=hq i (by simpa using hi);rw[Zg6 h4,(World.cells?_some R).2.1];intro i c hc;have hi:i<len:=(by have:=(Xae.1 hc).1;simpa using this);simp only[XaC,Xbf hi,Xal,Xaf]at hc;subst hc;obtain⟨_,h7,vals,R,h4⟩:=hq i hi;obtain⟨_,h5,h6⟩:=World.cells?_some R;refine ZsY h4 h7 λj v hj=> ?_;have ar:j<P.cellsOf e:=(by have:=(Xae.1 hj).1;omega);have h8:=h6 j ar;have ag:((⟨b,o,none⟩:Addr).add (i*P.cellsOf e)).add j=⟨b,o+i*P.cellsOf e+j,none⟩:=(by rw[ai];unfold Addr.add;split;rename_i h0;subst h0;rfl;rfl);rw[ag,hj]at h8;exact h8
   cases hs:Zl0 P t with|none=>rw[hs]at h;cases h|some J=>exact ah J hs h
end
variable [Laid]
open Go.ChangeShapes Go.WideShapes Go.ChangeAt
def Zyp:Ty->PV->Prop
 | .agg ps,p=> ∃cs,p= .agg cs/\HasTys ps cs
 |ty,p=>Zb5 ty [p]
def ZgQ:List Ty->List PV->Prop
 | [],qs=>qs=[]
 |t::ts,qs=> ∃q r,qs=q::r/\Zyp t q/\ZgQ ts r
section
variable {H:Type} {enc:TypeId × Value->H} {P:Program} {w:World}
def Zp1 {n:Nat} {t:TypeId} {ty:Ty} (h:ZoX P n t=some ty):(∃ps,ty= .agg ps/\((∃I,P.underlying t=some (.struct I))\/ ∃k e,P.underlying t=some (.array k e)))\/((∀ps,ty≠ .agg ps)/\ ∀v r base,Value.okWide P w r base t v-> ∀cs,v≠ .agg cs):=by cases n with|zero=>simp[ZoX]at h|succ n=>unfold ZoX at h;split at h;rename_i hu;cases h;refine .inr ⟨by simp,λv r base j cs=> ?_⟩;rintro rfl;simp[Value.okWide,hu,Cell.okWide,Cell.ok]at j;rename_i hu;cases h;refine .inr ⟨by simp,λv r base j cs=> ?_⟩;rintro rfl;simp[Value.okWide,hu,Cell.okWide,Cell.ok]at j;rename_i hu;cases h;refine .inr ⟨by simp,λv r base j cs=> ?_⟩;rintro rfl;simp[Value.okWide,hu,Cell.okWide,Cell.ok]at j;rename_i hu;obtain⟨x,_,h⟩:=Zai h;obtain⟨_,h⟩:=Zak h;cases h;refine .inr ⟨by simp,λv r base j cs=> ?_⟩;rintro rfl;simp[Value.okWide,hu,Cell.okWide,Cell.ok]at j;obtain⟨C,J,h⟩:=Zai h;cases R:ZhL P (P.cellsOf t) (ZoX P n) C 0 with|none=>simp[R]at h|some tys=>simp only[R,Xal,Xaf]at h;refine .inl ⟨tys,h.symm, ?_⟩;unfold Zl0 at J;split at J;rename_i I hu;exact .inl ⟨I,hu⟩;rename_i k e hu;exact .inr ⟨k,e,hu⟩;cases J
def ZEm {n:Nat} {t:TypeId} {ty:Ty} (j:ZoX P n t=some ty) {v:Value} {d:DataW H} {ps:List MemPlace} (J:DataW.Trod enc P w 0 (λ_=>true) true t v d ps) {r:Reach} {base:Nat} (C:Value.okWide P w r base t v)
 (R: ∀x∈ps,x.block<w.heap.size) (hl:Lim P t d): ∃p,Zyp ty p/\IRel w (λb=>b<w.heap.size) p v:=by
 obtain⟨fuel,J⟩:=J;obtain⟨qs,h1,I,h3⟩:=Zrr n t ty j fuel _ d ps J R hl;rcases Zp1 (w:=w) j with⟨tys,rfl,hu⟩|⟨U,aa⟩;have: ∃cs,v= .agg cs:=by rcases hu with⟨fs,hu⟩|⟨k,e,hu⟩;simp only[Value.okWide,hu]at C;exact⟨_,C.choose_spec.1⟩;simp only[Value.okWide,hu]at C;exact⟨_,C.choose_spec.1⟩
 obtain⟨cs,rfl⟩:=this;refine⟨.agg qs,⟨qs,rfl,by simpa only[Zb5]using h1⟩, ?_⟩;simp only[IRel];exact⟨cs,rfl,h3,I⟩;have hc:v.cells.toList=[v]:=by cases v with|agg cs=>exact absurd rfl (aa _ r base C cs)|_=>rfl
 rw[hc]at I;cases qs with|nil=>simp[LRel]at I|cons q r=>simp only[LRel]at I;obtain⟨v',r',h4,h5,h6⟩:=I;cases h4;have hr:r=[]:=(by cases r with|nil=>rfl|cons x y=>simp[LRel]at h6);subst hr;refine⟨q, ?_,h5⟩;cases ty with|agg ps=>exact absurd rfl (U ps)|_=>exact h1
def ZrR {n:Nat} {r:Reach} {base:Nat}: ∀ (ts:List TypeId) (vs:List Value) (ds:List (DataW H)) (ps:List MemPlace) (tys:List Ty),DataW.TrodAll enc P w 0 (λ_=>true) true ts vs ds ps->Za4 (ZoX P n) ts=some tys->
 (∀ (j:Nat) t v,ts[j]? =some t->vs[j]? =some v->Value.okWide P w r base t v)->(∀x∈ps,x.block<w.heap.size)->(∀ (j:Nat) t d,ts[j]? =some t->ds[j]? =some d->Lim P t d)->
 ∃qs,ZgQ tys qs/\LRel w (λb=>b<w.heap.size) qs vs/\ds.length=ts.length
 | [],[],[],ps,tys,h,C,_,_,_=>by simp[Zcr]at C;subst C;exact⟨[],by simp only[ZgQ],by simp only[LRel],rfl⟩
 |t::ts,v::vs,d::ds,ps,tys,h,C,U,hp,hl=>by obtain⟨p,q,h1,h2,rfl⟩:=h;obtain⟨ty,I,h3,h4,rfl⟩:=ZaF C;obtain⟨x,h5,h6⟩:=ZEm h3 h1 (U 0 t v rfl rfl) (λy J=>hp y (Xa8 _ J)) (hl 0 t d rfl rfl);obtain⟨qs,h7,h8,h9⟩:=ZrR ts vs ds q I h2 h4 (λj t v C R=>U (j+1) t v (by simpa using C) (by simpa using R)) (λy J=>hp y (XaT _ J)) (λj t d C hd=>hl (j+1) t d (by simpa using C) (by simpa using hd));exact⟨x::qs,by simp only[ZgQ];exact⟨x,qs,rfl,h5,h7⟩,by simp only[LRel];exact⟨v,vs,rfl,h6,h8⟩,by simp[h9]⟩
 | [],_::_,_,_,_,h,_,_,_,_=>by simp[DataW.TrodAll]at h
 | [],[],_::_,_,_,h,_,_,_,_=>by simp[DataW.TrodAll]at h
 |_::_,[],_,_,_,h,_,_,_,_=>by simp[DataW.TrodAll]at h
 |_::_,_::_,[],_,_,h,_,_,_,_=>by simp[DataW.TrodAll]at h
def ZlO {w':World} (I:laidOutB P=true) (J:Below w.heap.size w w'): ∀ (ts:List TypeId) (vs:List Value) (ds:List (DataW H)) (ps:List MemPlace),DataW.TrodAll enc P w 0 (λ_=>true) true ts vs ds ps->
 (∀t∈ts,P.readableRec t=true/\t<P.types.size)->(∀x∈ps,x.block<w.heap.size)->DataW.TrodAll enc P w' 0 (λb=>decide (b<w.heap.size)) true ts vs ds ps
 | [],[],[],ps,h,_,_=>h
 |t::ts,v::vs,d::ds,ps,h,C,hp=>by obtain⟨p,q,R,U,rfl⟩:=h;exact⟨p,q,Below.trod I (C t Xai).1 (C t Xai).2 R J (λx j=>hp x (Xa8 _ j)),ZlO I J ts vs ds q U (λx j=>C x (Xaj _ j)) (λx j=>hp x (XaT _ j)),rfl⟩
 | [],_::_,_,_,h,_,_=>by simp[DataW.TrodAll]at h
 | [],[],_::_,_,h,_,_=>by simp[DataW.TrodAll]at h
 |_::_,[],_,_,h,_,_=>by simp[DataW.TrodAll]at h
 |_::_,_::_,[],_,h,_,_=>by simp[DataW.TrodAll]at h
def Zoh {h:Hints} (hS:Static P h) (hP:ZbX P h) (laid:laidOutB P=true) {f:FuncId} {fn:Func} {s:ChangeSpec} {tys:List Ty} {tb:TypeId} (C:s.vars=[]) (ad:fn.resultTypes= #[tb]) (aj:P.underlying tb=some .bool)
 (I: ∀t∈fn.params.toList,P.readableRec t=true/\t<P.types.size) (ae:Za4 (ZoX P 20) fn.params.toList=some tys)
 (J: ∀qs,ZgQ tys qs-> ∃n H',(Zfh P h n).rn f qs []=some (.bool true,H'))
 (R: ∀ds:List (DataW H),ds.length=fn.params.size->s.fn H ds={results:=[.lit (.bool true)],args:=ds,vars:=[]})
 {W:World} {base:Nat} {args:Array Value} {ds gs:List (DataW H)} {before:List MemPlace} {apart fresh handsOn:Bool} (U:Laid.ok (λb=>b<W.heap.size) W)
 (af: ∀ (j:Nat) t v,fn.params[j]? =some t->args[j]? =some v->Value.okWide P W .any base t v) (hW:DataW.Whole enc P fn.params.toList s.vars apart W args.toList ds gs before)
 (ag:(DataW.weightsEach P (fn.params.toList++s.plain.varTypes P) (ds++gs)).all (· <=reachBytes)=true):
 Calls P f args W λe W'=> ∃v,e= .returned v/\s.post enc P fn apart fresh handsOn false W args v W':=by have aa:=hW.lt;have ah:=hW;obtain⟨p,q,hA,hV,rfl,_,_⟩:=hW;rw[C]at hV;obtain⟨rfl,rfl⟩:=trodVars_none hV;simp only[XaN]at ag aa ah;obtain⟨qs,h1,h2,h3⟩:=ZrR fn.params.toList args.toList ds p tys hA ae (λj t v ht hv=>af j t v (by simpa using ht) (by simpa using hv)) aa (λj t d ht hd n hn=>by have hj:(fn.params.toList++s.plain.varTypes P)[j]? =some t:=(by rw[Xam (Xae.1 ht).1];exact ht);have:=Xaw.1 ag n (DataW.weights_mem_each hj hd n hn);simpa using this);obtain⟨n,H',he⟩:=J qs h1;have hc:=(ZdN hS hP n).1.rn f qs [] _ H' he (λ_=>none) (λb=>b<W.heap.size) W W.heap.size args.toList (Inv.empty _ W (λ_ hb=>hb) U) (ZfW h2);rw[show args.toList.toArray=args from by simp]at hc;refine hc.mono ?_;rintro e W' ⟨u,φ',S',rfl,_,ai,hu⟩;simp only[VRel]at hu;subst hu;have ab:=R ds (by simpa using h3);refine⟨_,rfl,ds,[],p,[],p,[],by simpa using ah, ?_, ?_, ?_,ai.below.frame _,λh=>by cases h⟩;rw[XaN,ab,ad];exact trodAll_mk1 (shut_bool aj true);rw[XaN,ab];exact ZlO laid ai.below _ _ _ _ hA I aa;rw[C,XaN,ab];rfl
end
variable [Laid]
def ZpK {α:Type} (l:List (Nat×α)) (i:Nat):Option α:=
 List.rec none (λp _ j=>bif Nat.beq i p.1 then some p.2 else j) l
def mkHints (ok opn mem imp:List Nat) (keep keepB:List (Nat×List (Nat×List Nat×Bool))) (light:List (Nat×List (Nat×List Nat))) (frz:List Nat):Hints where
 ok:=λf=>has f ok
 opn:=λf=>has f opn
 mem:=λf=>has f mem
 imp:=λf=>has f imp
 keep:=λf r=>(ZpK keep f).bind λl=>ZpK l r
 keepB:=λf r=>(ZpK keepB f).bind λl=>ZpK l r
 light:=λf r=>((ZpK light f).bind λl=>ZpK l r).getD []
 perm:=λ_ _=> []
 frz:=λt=>has t frz
 prim:=λ_=>none
def withPerm (h:Hints) (perm:List (Nat×List (Nat×List Nat))):Hints:={h with perm:=λf r=>((ZpK perm f).bind λl=>ZpK l r).getD []}
def static_ofP {P:Program} {ok opn mem imp:List Nat} {keep keepB:List (Nat×List (Nat×List Nat×Bool))} {light perm:List (Nat×List (Nat×List Nat))} {frz:List Nat} (hm:P.follows .mixedOrders=true)
 (hf:(ok.all λf=>ZmV P (withPerm (mkHints ok opn mem imp keep keepB light frz) perm) f)=true):Static P (withPerm (mkHints ok opn mem imp keep keepB light frz) perm):=
 ⟨hm,λf h=>Xaw.1 hf f (Zye h),λf h=>by simp[mkHints,withPerm]at h⟩
variable [Laid]
def Evt (p:Nat->Prop):Prop:= ∃n,∀m,n<=m->p m
def Evt.of {p:Nat->Prop} (h: ∀m,p m):Evt p:=⟨0,λm _=>h m⟩
def Evt.and {p q:Nat->Prop} (h:Evt p) (j:Evt q):Evt λm=>p m/\q m:=by obtain⟨n,h⟩:=h;obtain⟨n',j⟩:=j;exact⟨max n n',λm hm=>⟨h m (by omega),j m (by omega)⟩⟩
def Evt.mono {p q:Nat->Prop} (h:Evt p) (j: ∀m,p m->q m):Evt q:=by obtain⟨n,h⟩:=h;exact⟨n,λm hm=>j m (h m hm)⟩
structure Tends (Es:Nat->Ev) (L:Ev):Prop where
 ex: ∀c code s r,L.ex c code s=some r->Evt λm=>(Es m).ex c code s=some r
 rn: ∀f a H r,L.rn f a H=some r->Evt λm=>(Es m).rn f a H=some r
section
variable (Es:Nat->Ev) (L:Ev)
def Ec {α:Type} (F:Ev->Option α):Prop:= ∀r,F L=some r->Evt λm=>F (Es m)=some r
variable {Es L}
def Ec.const {α:Type} (x:Option α):Ec Es L λ_=>x:=λ_ h=>Evt.of λ_=>h
def Ec.bind {α β:Type} {F:Ev->Option α} {G:α->Ev->Option β} (h:Ec Es L F) (j: ∀a,Ec Es L (G a)):Ec Es L λE=>(F E).bind λa=>G a E:=by intro r C;obtain⟨a,I,J⟩:=Zai C;exact((h a I).and (j a r J)).mono λm hm=>by show((F (Es m)).bind λa=>G a (Es m))=some r;rw[hm.1];exact hm.2
def Ec.map {α β:Type} {F:Ev->Option α} (g:α->β) (h:Ec Es L F):Ec Es L λE=>(F E).map g:=by intro r j;obtain⟨a,C,I⟩:=ZyD j;exact(h a C).mono λm hm=>by show(F (Es m)).map g=some r;rw[hm,<-I];rfl
def Ec.ite {α:Type} {c:Prop} [Decidable c] {F G:Ev->Option α} (h:Ec Es L F) (C:Ec Es L G):Ec Es L λE=>if c then F E else G E:=by by_cases j:c;simpa only[if_pos j]using h;simpa only[if_neg j]using C
def Ec.cond {α:Type} {c:Bool} {F G:Ev->Option α} (h:Ec Es L F) (j:Ec Es L G):Ec Es L λE=>bif c then F E else G E:=by cases c;exact j;exact h
variable {P:Program} {h:Hints}
def Zqz (hT:Tends Es L) (f:FuncId) (qs:List PV):Ec Es L λE=>ZbT h E f qs:=by unfold ZbT;cases h.prim f with|none=>exact Ec.bind (hT.rn f qs []) λx=>Ec.const _|some g=>exact Ec.const _
def ZuU (hT:Tends Es L) (f:FuncId) (qs:List PV) (base:Nat):Ec Es L λE=>Zdj E f qs base:=by unfold Zdj;exact Ec.bind (hT.rn f qs []) λx=>Ec.const _
def ZrC (hT:Tends Es L) (f:FuncId) (args:List PV) (H:List Mem) (base:Nat):Ec Es L λE=>Zhv h E f args H base:=by unfold Zhv;refine Ec.bind (Ec.const _) λqs=> ?_;refine Ec.cond ?_ ?_;unfold ZCu;exact Ec.map _ (ZuU hT f qs base);unfold ZqL;exact Ec.bind (Zqz hT f qs) λq=>Ec.const _
def ZoE (hT:Tends Es L) (H:List Mem) (base:Nat) (ρ:Operand->Option PV) (f:FuncId) (c:Call):Ec Es L λE=>ZfM h E H base ρ f c:=by unfold ZfM;exact Ec.ite (Ec.const _) (Ec.bind (Ec.const _) λvs=>ZrC hT f vs H base)
def Zyv (hT:Tends Es L) (H:List Mem) (base:Nat) (ρ:Operand->Option PV) (c:Call):Ec Es L λE=>Zjb P h E H base ρ c:=by unfold Zjb;split;exact Ec.const _;exact ZoE hT H base ρ _ c;exact Ec.const _
def ZGv (hT:Tends Es L) (H:List Mem) (base:Nat) (ρ:Operand->Option PV) (o:Oper):Ec Es L λE=>opR P h E H base ρ o:=by
 unfold opR;split;case h_25=>exact Zyv hT H base ρ _
 all_goals exact Ec.const _
def Zir (hT:Tends Es L) (H:List Mem) (ρ:Operand->Option PV) (o:Oper):Ec Es L λE=>ZaR P h E H ρ o:=by unfold ZaR;exact Ec.bind (ZGv hT H _ ρ o) λx=>Ec.const _
def ZlV (hT:Tends Es L) (f:FuncId) (args:List PV) (H:List Mem):Ec Es L λE=>ZcZ h E f args H:=by unfold ZcZ;exact Ec.ite (hT.rn f args H) (Ec.map _ (ZrC hT f args H H.length))
def ZzI (hT:Tends Es L) (H:List Mem) (ρ:Operand->Option PV) (f:FuncId) (c:Call):Ec Es L λE=>Zob h E H ρ f c:=by unfold Zob;exact Ec.bind (Ec.const _) λvs=>ZlV hT f vs H
def ZDn (hT:Tends Es L) (H:List Mem) (ρ:Operand->Option PV) (x:Operand) (c:Call):Ec Es L λE=>ZuX h E H ρ x c:=by
 unfold ZuX;refine Ec.bind (Ec.const _) λj=> ?_;cases j<;>first
  |exact Ec.const _
  |exact Ec.bind (Ec.const _) λvs=>ZlV hT _ _ H
def ZzW (hT:Tends Es L) (H:List Mem) (ρ:Operand->Option PV) (c:Call):Ec Es L λE=>Zh7 P h E H ρ c:=by unfold Zh7;split;exact Ec.const _;refine Ec.ite (ZzI hT H ρ _ c) ?_;unfold ZeI;exact Ec.map _ (ZoE hT H H.length ρ _ c);exact ZDn hT H ρ _ c;exact Ec.const _
def ZE3 (hT:Tends Es L) (H:List Mem) (ρ:Operand->Option PV) (o:Oper):Ec Es L λE=>opA P h E H ρ o:=by
 unfold opA;split;case h_25=>exact ZzW hT H ρ _
 all_goals exact Ec.const _
def Zpf (hT:Tends Es L) (N:Nat) (ops:Array Oper) (o:Oper) (s:St):Ec Es L λE=>Zdr P h E N ops o s:=by unfold Zdr;refine Ec.bind (Ec.const _) λb=>Ec.cond (Ec.bind (ZE3 hT _ _ o) λx=>Ec.const _) (Ec.const _)
def ZlW (hT:Tends Es L) (N:Nat) (ops:Array Oper): ∀ (l:List Oper) (s:St),Ec Es L λE=>Zfi P h E N ops l s
 | [],s=>Ec.const _
 |o::l,s=>Ec.bind (Zpf hT N ops o s) λj=>ZlW hT N ops l j
def ZAU (hT:Tends Es L) (N:Nat) (ops:Array Oper) (ls:List Nat) (i:Nat) (o:Oper) (s:St):Ec Es L λE=>Zhd P h E N ops ls i o s:=by unfold Zhd;refine Ec.cond ?_ (Zpf hT N ops o s);unfold ZxS;exact Ec.bind (Ec.const _) λb=>Ec.cond (Ec.bind (Zir hT _ _ o) λx=>Ec.const _) (Ec.const _)
def Zr3 (hT:Tends Es L) (H:List Mem): ∀acc:List (Nat×Oper×List (Nat×PV)×PV),Ec Es L λE=>ZdY P h E acc H
 | []=>Ec.const _
 |x::acc=>Ec.bind (Zir hT H _ x.2.1) λ_=>Ec.cond (Zr3 hT H acc) (Ec.const _)
def ZD6 (hT:Tends Es L) (ops:Array Oper) (i:Nat) (o:Oper) (s:St) (acc:List (Nat×Oper×List (Nat×PV)×PV)):Ec Es L λE=>ZzM P h E ops i o s acc:=by unfold ZzM;exact Ec.bind (Ec.const _) λb=>Ec.cond (Ec.map _ (Zir hT _ _ o)) (Ec.const _)
def Zg5 (hT:Tends Es L) (N:Nat) (ops:Array Oper) (ls:List Nat): ∀ (l:List Oper) (i:Nat) (acc:List (Nat×Oper×List (Nat×PV)×PV)) (s:St),Ec Es L λE=>Zbv P h E N ops ls l i acc s
 | [],_,_,s=>Ec.const _
 |o::l,i,acc,s=>Ec.bind (ZAU hT N ops ls i o s) λC=>Ec.cond (Ec.bind (ZD6 hT ops i o s acc) λj=>Zg5 hT N ops ls l (i+1) j C) (Ec.bind (Zr3 hT _ (Zcw _ o acc)) λ_=>Zg5 hT N ops ls l (i+1) (Zcw _ o acc) C)
def ZDM (hT:Tends Es L) (N:Nat) (ls:List Nat) (ops:Array Oper) (s:St):Ec Es L λE=>ZsP P h E N ls ops s:=by unfold ZsP;split;exact ZlW hT N ops _ s;exact Zg5 hT N ops _ _ _ _ s
def Zl2 (hT:Tends Es L):Tends (λm=>step P h (Es m)) (step P h L):=by
 refine⟨λc code s=> ?_,λf a H=> ?_⟩;show Ec Es L λE=>(step P h E).ex c code s;cases code with
  |region id ops d=>simp only[step];exact Ec.map _ (ZDM hT _ _ _ _)
  |seq a b=>simp only[step];refine Ec.bind (hT.ex c a s) λx=> ?_;obtain⟨e,j⟩:=x;cases e;exact hT.ex c b j;exact Ec.const _;exact Ec.const _
  |cond x a b=>
   simp only[step];refine Ec.bind (Ec.const _) λv=> ?_;cases v<;>first
    |exact Ec.const _
    |exact hT.ex _ _ _
  |block id b=>simp only[step];refine Ec.bind (hT.ex c b s) λx=> ?_;exact Ec.const _
  |loop b=>simp only[step];refine Ec.bind (Ec.const _) λC=>Ec.bind (hT.ex c b C) λx=> ?_;obtain⟨e,j⟩:=x;cases e;exact hT.ex c (.loop b) j;exact Ec.const _;exact Ec.const _
  |_=>exact Ec.const _
 show Ec Es L λE=>(step P h E).rn f a H;simp only[step];refine Ec.ite ?_ (Ec.const _);split;split;refine Ec.ite ?_ (Ec.const _);exact Ec.bind (hT.ex _ _ _) λx=>Ec.const _;exact Ec.const _;exact Ec.const _
end
section
open Classical
def lim (P:Program) (h:Hints):Ev where
 ex:=λc code s=>if H: ∃r,Evt λm=>(Zfh P h m).ex c code s=some r then some H.choose else none
 rn:=λf a M=>if H: ∃r,Evt λm=>(Zfh P h m).rn f a M=some r then some H.choose else none
end
section
variable {P:Program} {h:Hints}
def ZfD:Tends (Zfh P h) (lim P h):=by refine⟨λc code s r j=> ?_,λf a H r j=> ?_⟩;simp only[lim]at j;split at j;rename_i C;cases j;exact C.choose_spec;cases j;simp only[lim]at j;split at j;rename_i C;cases j;exact C.choose_spec;cases j
def Evt.det {α:Type} {F:Nat->Option α} {r j:α} (h:Evt λm=>F m=some r) (C:Evt λm=>F m=some j):r=j:=by obtain⟨n,I⟩:=h.and C;have:=I n (Xag _);have:=this.1.symm.trans this.2;exact Xbc this
def Evt.succ {p:Nat->Prop} (h:Evt λm=>p (m+1)):Evt p:=by obtain⟨n,h⟩:=h;refine⟨n+1,λm hm=> ?_⟩;obtain⟨k,rfl⟩: ∃k,m=k+1:=⟨m-1,by omega⟩;exact h k (by omega)
def ZgH {c:Cx} {code:Code} {s:St} {r:Ex×St} (I:(step P h (lim P h)).ex c code s=some r):(lim P h).ex c code s=some r:=by
 have j:Evt λm=>(Zfh P h m).ex c code s=some r:=Evt.succ ((Zl2 ZfD).ex c code s r I);have C: ∃r,Evt λm=>(Zfh P h m).ex c code s=some r:=⟨r,j⟩
 simp only[lim];rw[dif_pos C];exact congrArg some (Evt.det C.choose_spec j)
def ZFC {f:FuncId} {a:List PV} {H:List Mem} {r:PV×List Mem} (I:(step P h (lim P h)).rn f a H=some r):(lim P h).rn f a H=some r:=by
 have j:Evt λm=>(Zfh P h m).rn f a H=some r:=Evt.succ ((Zl2 ZfD).rn f a H r I);have C: ∃r,Evt λm=>(Zfh P h m).rn f a H=some r:=⟨r,j⟩
 simp only[lim];rw[dif_pos C];exact congrArg some (Evt.det C.choose_spec j)
def ZvA {f:FuncId} {a:List PV} {H:List Mem} {r:PV×List Mem} (j:(lim P h).rn f a H=some r): ∃n,(Zfh P h n).rn f a H=some r:=by obtain⟨n,C⟩:=ZfD.rn f a H r j;exact⟨n,C n (Xag _)⟩
end
variable [Laid]
section
variable (P:Program) (h:Hints) (E:Ev)
def Zdt (k:Option (List Nat×Bool)) (id:Nat) (c:Cx):Ex×St->Option (Ex×St)
 |(.exit j,I)=>if j=id then(Zft k c I).map λC=>(.normal,C)else some (.exit j,I)
 |(.normal,I)=>(Zft k c I).map λC=>(.normal,C)
 |(.ret,I)=>some (.ret,I)
def ZgA (f:St->Option (Ex×St)):Ex×St->Option (Ex×St)
 |(.normal,C)=>f C
 |(.exit j,C)=>some (.exit j,C)
 |(.ret,C)=>some (.ret,C)
def Zqe (x y:Option (Ex×St)):PV->Option (Ex×St)
 | .bool true=>x
 | .bool false=>y
 |_=>none
def exS (c:Cx):Code->St->Option (Ex×St)
 | .skip,s=>some (.normal,s)
 | .label _,s=>some (.normal,s)
 | .region id ops _,s=>(ZsP P h E c.N (h.light c.fid id) (rgo (h.perm c.fid id) ops) s).map λj=>(.normal,j)
 | .seq a b,s=>(exS c a s).bind (ZgA (exS c b))
 | .cond x a b,s=>(ev s.tm x).bind (Zqe (exS c a s) (exS c b s))
 | .block id b,s=>(exS c b s).bind (Zdt (h.keepB c.fid id) id c)
 | .loop b,s=>E.ex c (.loop b) s
 | .exit id,s=>some (.exit id,s)
 | .ret,s=>some (.ret,s)
 |_,_=>none
def ZlF (c:Cx) (b:Code) (s:St):Option (Ex×St):=(Zft (h.keep c.fid (Zdu b)) c s).bind (exS P h E c b)
end
section
variable {P:Program} {h:Hints}
def Zep (c:Cx): ∀ (code:Code) (s:St) (r:Ex×St),exS P h (lim P h) c code s=some r->(lim P h).ex c code s=some r
 | .skip,s,r,C=>ZgH C
 | .label _,s,r,C=>ZgH C
 | .region id ops d,s,r,C=>ZgH C
 | .seq a b,s,r,C=>by simp only[exS]at C;obtain⟨⟨e,R⟩,J,I⟩:=Zai C;refine ZgH ?_;simp only[step,Zep c a s _ J,Xaa];cases e with|normal=>exact Zep c b R _ I|exit j=>exact I|ret=>exact I
 | .cond x a b,s,r,C=>by simp only[exS]at C;obtain⟨v,J,I⟩:=Zai C;refine ZgH ?_;simp only[step,J,Xaa];cases v with|bool t=>(cases t with|true=>exact Zep c a s _ I|false=>exact Zep c b s _ I)|_=>cases I
 | .block id b,s,r,C=>by simp only[exS]at C;obtain⟨⟨e,R⟩,J,I⟩:=Zai C;refine ZgH ?_;simp only[step,Zep c b s _ J,Xaa];cases e with|normal=>exact I|exit j=>exact I|ret=>exact I
 | .loop b,s,r,C=>C
 | .exit id,s,r,C=>ZgH C
 | .ret,s,r,C=>ZgH C
def ZxR {c:Cx} {b:Code} {s C:St} {r:Ex×St} (j:ZlF P h (lim P h) c b s=some (.normal,C)) (I:(lim P h).ex c (.loop b) C=some r):(lim P h).ex c (.loop b) s=some r:=by unfold ZlF at j;obtain⟨J,R,j⟩:=Zai j;refine ZgH ?_;simp only[step,R,Xaa,Zep c b J _ j];exact I
def ZpB {c:Cx} {b:Code} {s C:St} {e:Ex} (he:e≠ .normal) (j:ZlF P h (lim P h) c b s=some (e,C)):(lim P h).ex c (.loop b) s=some (e,C):=by unfold ZlF at j;obtain⟨I,J,j⟩:=Zai j;refine ZgH ?_;simp only[step,J,Xaa,Zep c b I _ j]
def ZHw (P:Program) (rs:List ResultVar):Ex×St->Option (PV×List Mem)
 |(.exit _,_)=>none
 |(_,s)=>(Za4 (Zjp P s.tm s.hp) rs).map λvs=>(ZbM vs,s.hp)
def Zs8 {f:FuncId} {fn:Func} {code:Code} {args:List PV} {H:List Mem} {r:PV×List Mem} (C:h.ok f=true) (hf:P.funcs[f]? =some fn) (J:fn.body=some code) (R:args.length<=fn.ntmps)
 (U:(exS P h (lim P h) ⟨f,H.length,fn.ntmps⟩ code ⟨enterT 0 args,H⟩).bind (ZHw P fn.results.toList)=some r):(lim P h).rn f args H=some r:=by obtain⟨⟨e,s⟩,h1,I⟩:=Zai U;refine ZFC ?_;simp only[step,C,if_true,hf,J,R,Zep _ _ _ _ h1,Xaa];cases e with|normal=>exact I|exit j=>cases I|ret=>exact I
end
variable [Laid]
def Holds {α:Type} (x:Option α) (Q:α->Prop):Prop:= ∃r,x=some r/\Q r
def Holds.mono {α:Type} {x:Option α} {Q R:α->Prop} (h:Holds x Q) (j: ∀r,Q r->R r):Holds x R:=by obtain⟨r,C,I⟩:=h;exact⟨r,C,j r I⟩
def Zvd {α β:Type} (f:α->Option β):Za4 f []=some []:=rfl
def Zbh {α β:Type} (f:α->Option β) (a:α) (l:List α):Za4 f (a::l)=(f a).bind λb=>(Za4 f l).bind λs=>some (b::s):=rfl
section
variable {P:Program} {h:Hints} {E:Ev}
def want (ds:List (Option Tmp)) (tm:List (Nat×PV)) (j:Nat) (w:Bool):Option Bool:=
 match((ds[j]?).bind id).bind (get tm)with
 |some (.bool b)=>some (b==w)
 |some (.tup [])=>some false
 |_=>none
def opE (P:Program) (h:Hints) (E:Ev) (H:List Mem) (ρ:Operand->Option PV) (op:Op):Zn0:=opA P h E H ρ ⟨none,op,0,"", #[],none⟩
def ZwM (H:List Mem) (ρ:Operand->Option PV) (o:Oper):opA P h E H ρ o=opE P h E H ρ o.op:=rfl
def ZeV (P:Program) (h:Hints) (E:Ev) (N:Nat) (ds:List (Option Tmp)):List Oper->St->Option St
 | [],s=>some s
 |⟨dst,op,ty,pos,after,none⟩::l,s=>(opE P h E s.hp (ev s.tm) op).bind λx=>((Zf2 N dst x.1 s.tm).map λtm=>(⟨tm,x.2⟩:St)).bind (ZeV P h E N ds l)
 |⟨dst,op,ty,pos,after,some (j,w)⟩::l,s=>(want ds s.tm j w).bind λb=>
  (bif b then(opE P h E s.hp (ev s.tm) op).bind λx=>((Zf2 N dst x.1 s.tm).map λtm=>(⟨tm,x.2⟩:St))else(Zf2 N dst (.tup []) s.tm).map λtm=>⟨tm,s.hp⟩).bind (ZeV P h E N ds l)
def Zo9 (N:Nat) (ops:Array Oper): ∀ (l:List Oper) (s:St),Zfi P h E N ops l s=ZeV P h E N (ops.toList.map (·.dst)) l s
 | [],s=>rfl
 |⟨dst,op,ty,pos,after,g⟩::l,s=>by
  show(Zdr P h E N ops ⟨dst,op,ty,pos,after,g⟩ s).bind (Zfi P h E N ops l)=_;rw[show Zfi P h E N ops l=ZeV P h E N (ops.toList.map (·.dst)) l from funext (Zo9 N ops l)];cases g with
  |none=>simp only[Zdr,Zeq,Xaa,cond_true,ZeV,ZwM];rw[Option.bind_assoc]
  |some C=>
   obtain⟨j,w⟩:=C;have hw:Zeq ops s.tm ⟨dst,op,ty,pos,after,some (j,w)⟩=want (ops.toList.map (·.dst)) s.tm j w:=by
    simp only[Zeq,want];have:(ops[j]?).bind (·.dst)=((ops.toList.map (·.dst))[j]?).bind id:=(by rw[XaC,Array.getElem?_toList];cases ops[j]? <;>rfl);rw[this];generalize(((ops.toList.map (·.dst))[j]?).bind id).bind (get s.tm)=x;cases x with
    |none=>rfl
    |some v=>cases v<;>first
     |rfl
     |(rename_i vs;cases vs<;>rfl)
   simp only[Zdr,hw,ZeV,ZwM];rw[Option.bind_assoc]
def Zze (N:Nat) (ops:Array Oper) (s:St):ZsP P h E N [] ops s=ZeV P h E N (ops.toList.map (·.dst)) ops.toList s:=Zo9 N ops _ s
def Sl (q:PV) (es:List (List PV)):Prop:=(q= .nils/\es=[])\/q= .lst es
def Sl.len {q:PV} {es:List (List PV)} (j:Sl q es) {t e:TypeId} (hu:P.underlying t=some (.slice e)) (H:List Mem):ZeS P H t q=some (.int .i64 es.length):=by rcases j with⟨rfl,rfl⟩|rfl;simp[ZeS,hu];simp[ZeS,hu]
def Sl.index {q:PV} {es:List (List PV)} (J:Sl q es) {t e:TypeId} {z:Nat} (hu:P.underlying t=some (.slice e)) (R:Zbe P e=some z) (H:List Mem) {k:IntKind} {j:Int} {c:List PV} (U:0<=j) (I:j<es.length) (hc:es[j.toNat]? =some c) (C:c.length=z):
 Zao P H t q (.int k j)=some (.box c 0):=by rcases J with⟨rfl,rfl⟩|rfl;simp at I;omega;simp only[Zao,hu,R,Xaa];rw[if_pos ⟨U,I⟩,hc];simp[C]
end
end
end Go.Am
