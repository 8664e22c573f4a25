/- The evaluator of the model's code on plain values, with its soundness and its walking rules (part 2). -/
import Derived.Test.YtapbiodcncnnfaaGreatDoorAmA
import Derived.Orders
import Derived.LoopN
import Derived.ProofKit
import Derived.SizedLaws
set_option linter.all false
namespace Go.Am
noncomputable section
variable [Laid]
open Go.RowKit
section
variable {P : Program} {h : Hints} {E : Ev} {w : World} {φ : Phi} {S : Nat → Prop} {B : Nat} {H : List Mem}
theorem Zhd {es:List (List PV)} {z z':Nat} (j:Ze2 es z=true) (hw: ∀x∈es,x.length=z'): ∀x∈es,x.length=z:=by
 cases es with
 |nil=>simp
 |cons c r=>
  simp only[Ze2,beq_iff_eq]at j
  have:z'=z:=by rw[←hw c Xah];exact j
  subst this;exact hw
theorem Zi8 {x:PV} {new:List (List PV)} {X:Value} {z:Nat} (hI:Inv φ H w S B) (U:Zmz H x=some new) (hx:VRel φ w S x X) (R:Ze2 new z=true):
 (∀w',(Builtin.lenOf X).run P w'= .ok new.length w')∧(∀y∈new,y.length=z)∧ ∃vals,VL φ w S new.flatten vals∧(∀c∈new.flatten,Zcr c=true)∧
  ∀ (w':World) (k:Nat),k≤new.length→(∀b,b<w.heap.size→w'.heap[b]? =w.heap[b]?)→(Builtin.firstCells z k X).run P w'= .ok (vals.take (k*z)).toArray w':=by
 have I: ∀es,elems H x=some es→new=es→(∀w',(Builtin.lenOf X).run P w'= .ok new.length w')∧(∀y∈new,y.length=z)∧ ∃vals,VL φ w S new.flatten vals∧(∀c∈new.flatten,Zcr c=true)∧
  ∀ (w':World) (k:Nat),k≤new.length→(∀b,b<w.heap.size→w'.heap[b]? =w.heap[b]?)→(Builtin.firstCells z k X).run P w'= .ok (vals.take (k*z)).toArray w':=by
  intro es aa ab
  subst ab
  obtain⟨a,c,rfl,hle,J⟩:=ZiD hI aa hx
  refine⟨fun w'=>rfl, ?_, ?_⟩
  ·rcases J with rfl|⟨b,o,z',_,hw,_⟩
   ·simp
   ·exact Zhd R hw
  ·rcases J with rfl|⟨b,o,z',rfl,hw,hv⟩
   ·refine⟨[],by simp[VL],by simp,fun w' k hk _=> ?_⟩
    have:k=0:=by simpa using hk
    subst this
    cases a<;>simp[Builtin.firstCells,loadCells,loadCellsFrom]
   ·obtain⟨vs,h1,h2,h3⟩:=VC.vals (VE.flat hv)
    refine⟨vs,h1,h2,fun w' k hk hb=> ?_⟩
    have hlen:vs.length=new.length*z:=by rw[VL.length h1,ZaU new (Zhd R hw)]
    have ad:(vs.take (k*z)).length=k*z:=by rw[Xas,hlen];exact XaL (Xa8 _ hk)
    have:=run_loadCells_list (P:=P) w' ⟨b,o,none⟩ (vs.take (k*z)) (fun j v hj=>by
     rw[Addr.add_lit]
     have ae:vs[j]? =some v:=by
      rw[List.getElem?_take]at hj
      split at hj
      ·exact hj
      ·cases hj
     have C:=h3 j v ae
     rw[ZfY (hb b (World.block_lt_of_cell? w _ C))]
     exact C)
    rw[ad]at this
    simpa[Builtin.firstCells]using this
 unfold Zmz at U
 split at U
 ·rename_i b
  cases U
  simp only[VRel]at hx;subst hx
  have hlen:(byteCells b).length=b.size:=by simp[byteCells]
  refine⟨fun w'=>by rw[hlen];rfl,Zhd (z':=1) R (by intro y hy;simp only[byteCells,Xbq]at hy;obtain⟨q,_,rfl⟩:=hy;rfl),(b.data.toList.map fun q=>(q.toNat:Int)).map (Value.int .u8), ?_, ?_, ?_⟩
  ·have hf:(byteCells b).flatten=(b.data.toList.map fun q=>(q.toNat:Int)).map (PV.int .u8):=by
    simp only[byteCells]
    rw[ZdP (fun q:UInt8=>PV.int .u8 q.toNat),List.map_map];rfl
   rw[hf];exact Zom _
  ·intro c J
   simp only[byteCells,List.mem_flatten,Xbq]at J
   obtain⟨l,⟨q,_,rfl⟩,J⟩:=J
   simp at J;subst J;rfl
  ·intro w' k hk _
   have af:b.size=0∨z=1:=by
    cases hd:byteCells b with
    |nil=>left;rw[←hlen,hd];rfl
    |cons c r=>
     right
     rw[hd]at R
     simp only[Ze2,beq_iff_eq]at R
     have:c∈byteCells b:=by rw[hd];exact Xah
     simp only[byteCells,Xbq]at this
     obtain⟨q,_,rfl⟩:=this
     exact R.symm
   have ag:k*z=k:=by
    rcases af with h0|rfl
    ·have:k=0:=by omega
     subst this;simp
    ·simp
   rw[ag]
   simp only[Builtin.firstCells,Sem.run_pure]
   congr 1
   apply Array.ext'
   simp[ByteArray.data_extract,Array.toList_extract,List.extract_eq_take_drop,List.map_take]
   rfl
 ·exact I new U rfl
theorem Zga {t:Option TypeId} (j:Ze7 P t=true):t=none∨ ∃t1 d,t=some t1∧P.underlying t1=some d∧ ∀k,d≠ .int k:=by
 cases t with
 |none=>exact .inl rfl
 |some t=>
  right
  simp only[Ze7]at j
  cases hu:P.underlying t with
  |none=>simp[hu]at j
  |some d=>
   refine⟨t,d,rfl,hu, ?_⟩
   rintro k rfl
   simp[hu]at j
theorem Zep {ts:Array TypeId} {ty t e:TypeId} {z n sLen sCap:Nat} {base:Option Addr} {I:Value} {vals:List Value} {w':World} (ht:ts[0]? =some t) (hu:P.underlying t=some (.slice e)) (hz:Za1 P e=some z) (hn:Ze7 P (ts[1]?)=true)
 (hlen: ∀w',(Builtin.lenOf I).run P w'= .ok n w') (J:(Builtin.firstCells z n I).run P w= .ok vals.toArray w) (C:sLen+n≤sCap)
 (j:(match base with|some a=>storeCells (a.add (sLen*z)) vals|none=>pure ():Sem Unit).run P w= .ok () w'):
 (Builtin.append_ ts ty #[.slice base sLen sCap,I]).run P w= .ok (.slice base (sLen+n) sCap) w':=by
 have R:(#[Value.slice base sLen sCap,I]:Array Value)[0]? =some (.slice base sLen sCap):=rfl
 have U:(#[Value.slice base sLen sCap,I]:Array Value)[1]? =some I:=rfl
 unfold Builtin.append_
 simp only[ht,R,U,Sem.run_bind,run_underlying hu,Result.andThen_ok,ZaH hz]
 have fin: ∀s:Sem Unit,s.run P w= .ok () w'→(do s;pure (Value.slice base (sLen+n) sCap):Sem Value).run P w= .ok (.slice base (sLen+n) sCap) w':=by
  intro s hs;simp[hs]
 rcases Zga hn with h1|⟨t1,d,h1,aa,hd⟩
 ·simp only[h1,Sem.run_bind,Sem.run_pure,Result.andThen_ok,XaG,if_false,if_true,hlen,XbC,J,if_pos C]
  cases base with
  |none=>simp only[Sem.run_pure]at j⊢;cases j;rfl
  |some a=>simp only[Sem.run_bind,List.toList_toArray]at j⊢;rw[j];rfl
 ·simp only[h1,Sem.run_bind,run_underlying aa,Result.andThen_ok]
  have ab: ∀b:Bool,b=false→(pure b:Sem Bool).run P w= .ok false w:=by rintro _ rfl;rfl
  cases d<;>first
   |exact absurd rfl (hd _)
   |(simp only[Sem.run_bind,Sem.run_pure,Result.andThen_ok,XaG,if_false,if_true,hlen,XbC,J,if_pos C]
     cases base with
     |none=>simp only[Sem.run_pure]at j⊢;cases j;rfl
     |some a=>simp only[Sem.run_bind,List.toList_toArray]at j⊢;rw[j];rfl)
theorem Zht {ts:Array TypeId} {ty t e:TypeId} {z by_ n sLen sCap:Nat} {base:Option Addr} {I zv:Value} {olds vals:List Value} {i:TypeInfo} (ht:ts[0]? =some t) (hu:P.underlying t=some (.slice e)) (hi:P.info? e=some i) (hz:i.size=z) (ae:i.bytes=by_)
 (af:i.zero=some zv) (hn:Ze7 P (ts[1]?)=true)
 (hlen: ∀w',(Builtin.lenOf I).run P w'= .ok n w') (J:(Builtin.firstCells z n I).run P w.drew= .ok vals.toArray w.drew) (R:(Builtin.firstCells z sLen (.slice base sLen sCap)).run P w.drew= .ok olds.toArray w.drew) (ak:sCap<sLen+n)
 (al:0<by_) (hb:(sLen+n)*by_≤140737488355328):
 (Builtin.append_ ts ty #[.slice base sLen sCap,I]).run P w= .ok (.slice (some ⟨w.heap.size,0,none⟩) (sLen+n) (grownCap w (sLen+n) sCap e))
  (w.drew.alloc (.cells (olds.toArray++vals.toArray++Builtin.zeroCells zv.cells (grownCap w (sLen+n) sCap e-(sLen+n))) e)):=by
 have ag:(#[Value.slice base sLen sCap,I]:Array Value)[0]? =some (.slice base sLen sCap):=rfl
 have ah:(#[Value.slice base sLen sCap,I]:Array Value)[1]? =some I:=rfl
 have ai:(sizeOf e).run P w= .ok z w:=by simp[sizeOf,typeInfo,hi,hz]
 have U: ∀w,(typeInfo e).run P w= .ok i w:=by intro w;simp[typeInfo,hi]
 have aa: ∀w,(zeroValue e).run P w= .ok zv w:=by intro w;simp[zeroValue,typeInfo,hi,af]
 have j: ¬sLen+n≤sCap:=by omega
 have ab: ¬i.bytes=0:=by omega
 have C: ¬Builtin.nextslicecap (sLen+n) sCap*i.bytes>2^48:=by
  have:=growslice_fits (need:=sLen+n) (old:=sCap) (bytes:=by_) (by omega) hb
  rw[ae]
  have e:(2:Nat)^48=281474976710656:=by decide
  omega
 have ad:(choose (.appendCap (sLen+n) sCap e)).run P w= .ok (grownCap w (sLen+n) sCap e) w.drew:=by
  rw[run_choose];rfl
 unfold Builtin.append_
 simp only[ht,ag,ah,Sem.run_bind,run_underlying hu,Result.andThen_ok,ai]
 rcases Zga hn with h1|⟨t1,d,h1,aj,hd⟩
 ·simp only[h1,Sem.run_bind,Sem.run_pure,Result.andThen_ok,XaG,if_false,if_true,hlen,XbC,if_neg j,U,ab,or_self,and_false,if_neg C,ad,run_askRoom,R,J,aa,newRow,run_newObj]
  rfl
 ·simp only[h1,Sem.run_bind,run_underlying aj,Result.andThen_ok]
  cases d<;>first
   |exact absurd rfl (hd _)
   |(simp only[Sem.run_bind,Sem.run_pure,Result.andThen_ok,XaG,if_false,if_true,hlen,XbC,if_neg j,U,ab,or_self,and_false,if_neg C,ad,run_askRoom,R,J,aa,newRow,run_newObj]
     rfl)
theorem ZhL (z:Array Value) (n:Nat):Builtin.zeroCells z n=madeCells z (n*z.size):=rfl
theorem Zis (z:Array Value) (n:Nat):(Builtin.zeroCells z n).size=n*z.size:=by rw[ZhL,size_madeCells]
theorem ZjM {e:TypeId} {z n sLen:Nat} {zv:Value} {id:Nat} {es:List (List PV)} {olds vals:List Value} (hI:Inv φ H w S B) (J:φ id=none) (hH:H[id]? =some (.row es z true)) (cap:Nat) (I:sLen+n≤cap)
 (hw: ∀c∈es,c.length=z) (hl:es.length=sLen+n) (hv:VL φ w S es.flatten (olds++vals)) (h1: ∀c∈es.flatten,Zcr c=true) (R:zv.cells.size=z):
 ∃φ' S',Inv φ' H (w.drew.alloc (.cells (olds.toArray++vals.toArray++Builtin.zeroCells zv.cells (cap-(sLen+n))) e)) S' B∧Evo H.length B φ S w φ' S' (w.drew.alloc (.cells (olds.toArray++vals.toArray++Builtin.zeroCells zv.cells (cap-(sLen+n))) e))∧
  VRel φ' (w.drew.alloc (.cells (olds.toArray++vals.toArray++Builtin.zeroCells zv.cells (cap-(sLen+n))) e)) S' (.ref id 0 (sLen+n) (sLen+n)) (.slice (some ⟨w.heap.size,0,none⟩) (sLen+n) cap)∧ ∀i,i≠id→φ' i=φ i:=by
 have hlen:(olds++vals).length=(sLen+n)*z:=by rw[VL.length hv,ZaU es hw,hl]
 have C:(olds.toArray++vals.toArray++Builtin.zeroCells zv.cells (cap-(sLen+n))).size=cap*z:=by
  simp only[Array.size_append,List.size_toArray,Zis,R]
  rw[Xaw]at hlen
  rw[hlen,←Xa4];congr 1;omega
 obtain⟨φ',S',h2,h3,h4,h5⟩:=hI.add (fz:=(0,0)) (ZeA w (.cells (olds.toArray++vals.toArray++Builtin.zeroCells zv.cells (cap-(sLen+n))) e)) J hH (Zdz w _) hw hv h1
  (by intro j v U
      have:j<(olds++vals).length:=(Xae.1 U).1
      rw[show olds.toArray++vals.toArray=(olds++vals).toArray from by simp,Array.getElem?_append_left (by simpa using this)]
      simpa using U)
  (by rw[hl,C];exact Xa8 _ I) (by intro j U;simp)
 refine⟨φ',S',h2,h3, ?_,h5⟩
 simp only[VRel]
 exact⟨_,_,cap,h4,rfl,Xan _,I, .inr ⟨by simp,by simp only[Xaq];exact Nat.le_of_eq C.symm⟩⟩
theorem ZgQ {id i:Nat} {es new:List (List PV)} {z:Nat} {l:Loc} {vals:List Value} (hI:Inv φ H w S B) (I:φ id=some l) (hm:H[id]? =some (.row es z true)) (hw: ∀c∈new,c.length=z) (hv:VL φ w S new.flatten vals) (ho: ∀c∈new.flatten,Zcr c=true)
 (hle:i+new.length≤es.length):
 (storeCells ⟨l.b,l.o+i*z,none⟩ vals).run P w= .ok () (w.setCells l.b (l.o+i*z) vals)∧Inv φ (H.set id (.row (splice es i new) z true)) (w.setCells l.b (l.o+i*z) vals) S B∧Evo H.length B φ S w φ S (w.setCells l.b (l.o+i*z) vals):=by
 have C:=hI.row id l es z true I hm
 have R:=ZaU new hw
 have ah:=ZaU es C.wid
 have ai:vals.length=new.length*z:=by rw[VL.length hv,R]
 have ag:=C.top
 have aj:i*z+new.length*z≤es.length*z:=by rw[←Xa4];exact Xa8 _ hle
 have ab: ∀x∈splice es i new,x.length=z:=fun x U=>(Zhb U).elim (C.wid x) (hw x)
 have ad:(splice es i new).length=es.length:=Zgo _ _ _ hle
 have ae:(splice es i new).flatten=splice es.flatten (i*z) new.flatten:=by
  unfold splice
  rw[List.flatten_append,List.flatten_append,R]
  have ht:(es.take i).flatten=es.flatten.take (i*z):=by
   have h1:es.flatten=(es.take i).flatten++(es.drop i).flatten:=by rw[←List.flatten_append,XaR]
   have h2:(es.take i).flatten.length=i*z:=by rw[ZaU _ (fun x U=>C.wid x (XaH U)),Xas,XaL (by omega)]
   rw[h1,←h2,List.take_left' rfl]
  have hd:(es.drop (i+new.length)).flatten=es.flatten.drop (i*z+new.length*z):=by
   have h1:es.flatten=(es.take (i+new.length)).flatten++(es.drop (i+new.length)).flatten:=by rw[←List.flatten_append,XaR]
   have h2:(es.take (i+new.length)).flatten.length=i*z+new.length*z:=by rw[ZaU _ (fun x U=>C.wid x (XaH U)),Xas,XaL (by omega),Xa4]
   rw[h1,←h2,List.drop_left' rfl]
  rw[ht,hd]
 refine⟨?_, ?_⟩
 ·have:=run_storeCells_cells (P:=P) l.b (l.o+i*z) vals 0 w
   (fun j J=>by rw[show l.o+i*z+0+j=l.o+(i*z+j)from by omega];exact(Zd4 C _ (by omega)).1)
   (fun j J=>by rw[show l.o+i*z+0+j=l.o+(i*z+j)from by omega];exact(Zd4 C _ (by omega)).2) (Zlb hv ho)
  simpa using this
 ·refine hI.patch (id:=id) (l:=l) (es':=splice es i new) (z:=z) I (fun _ _=>rfl) (.inr I) (by simp[(hI.live id l I).2.2]) ?_ (by simp) (Zb5 _ _ _ _) (Zc3 _ _ _ _) (fun b hb=>ZbA _ _ _ _ _ hb)
   (C.own rfl) (hI.live id l I).1 (hI.live id l I).2.1 ?_ (C.set (fun _ _ h=>h) ae ab ad hv ho (by omega))
  ·intro j l' J _;exact .inl (by rw[XaD (fun e=>J e.symm)])
  ·intro j lj m J af aa ha
   rw[XaD (fun e=>J e.symm)]at aa
   exact hI.apart j id lj l m _ J af I aa hm ha rfl
theorem Zlu {ts:Array TypeId} {ty t e:TypeId} {z by_:Nat} {zero:List PV} {s x v:PV} {sv xv:Value} {new:List (List PV)} {H':List Mem} (hI:Inv φ H w S B) (ht:ts[0]? =some t) (hu:P.underlying t=some (.slice e)) (hz:Za1 P e=some z) (bd:ZiU P e=some by_)
 (bt:Zdn P e=some zero) (bk:Zmz H x=some new) (hn:Ze7 P (ts[1]?)=true) (a6:0<by_) (b7:0<z) (bu:zero.length=z) (hh:Ze2 new z=true) (C:ZbE H z by_ s new=some (v,H')) (hs:VRel φ w S s sv) (hx:VRel φ w S x xv):
 ∃u w' φ' S',(Builtin.append_ ts ty #[sv,xv]).run P w= .ok u w'∧Inv φ' H' w' S' B∧Evo H.length B φ S w φ' S' w'∧VRel φ' w' S' v u∧ ∀i,i<H.length→φ' i=φ i:=by
 obtain⟨hlen,a1,vals,hv,ho,bl⟩:=Zi8 (P:=P) hI bk hx hh
 obtain⟨i,zv,hi,bm,bn,_⟩:=Zch (w:=w) (φ:=φ) (S:=S) bt
 have a7:i.size=z:=by unfold Za1 at hz;rw[hi]at hz;simpa using hz
 have a8:i.bytes=by_:=by unfold ZiU at bd;rw[hi]at bd;simpa using bd
 have ba:zv.cells.size=z:=by have:=VL.length bn;simpa[bu]using this
 have bw:vals.length=new.length*z:=by rw[VL.length hv,ZaU new a1]
 have bf:vals.take (new.length*z)=vals:=Xay (by omega)
 have af:=bl w new.length (Xan _) (fun _ _=>rfl)
 have al:=bl w.drew new.length (Xan _) (fun _ _=>rfl)
 rw[bf]at af al
 unfold ZbE at C
 split at C
 ·
  simp only[VRel]at hs;subst hs
  by_cases R:new.isEmpty=true
  ·rw[if_pos R]at C
   cases C
   have:new=[]:=XbN.1 R
   subst this
   have bg:vals=[]:=by simpa[VL]using hv
   subst bg
   exact⟨_,w,φ,S,Zep (base:=none) (sCap:=0) ht hu hz hn hlen af (by simp) (by rfl),hI,Evo.refl _ _ _ _ _,by simp only[VRel];rfl,fun _ _=>rfl⟩
  ·rw[if_neg R]at C
   obtain⟨hb,C⟩:=Zar C
   cases C
   have bo:0<new.length:=by cases new with|nil=>simp at R|cons _ _=>simp
   have hr:=Zht (ts:=ts) (ty:=ty) (sLen:=0) (sCap:=0) (base:=none) (olds:=[]) ht hu hi a7 a8 bm hn hlen al (by simp[Builtin.firstCells]) (by omega) a6 (by simpa using hb)
   have bx:Inv φ (H++ [Mem.row new z true]) w S B:=hI.reheap (fun j l hj=> .inl (by rw[Xar (hI.live j l hj).2.2])) (by simp)
   have an:φ H.length=none:=by
    cases hc:φ H.length with
    |none=>rfl
    |some l=>have:=(hI.live _ l hc).2.2;omega
   have bh:=grownCap_ge w (0+new.length) 0 e
   obtain⟨φ',S',h2,h3,h4,h5⟩:=ZjM (e:=e) (zv:=zv) (sLen:=0) (n:=new.length) (olds:=[]) (vals:=vals) (id:=H.length) bx an (by simp) (grownCap w (0+new.length) 0 e) bh a1 (by simp) (by simpa using hv) ho ba
   refine⟨_,_,φ',S',hr,h2,h3.mono (by simp), ?_,fun i hi=>h5 i (by omega)⟩
   simpa using h4
 ·rename_i id j n room
  split at C
  ·rename_i es z' hm
   obtain⟨⟨bz,hle⟩,C⟩:=Zar C
   subst bz
   simp only[VRel]at hs
   obtain⟨l,ad,cp,hl,rfl,ao,U,aa⟩:=hs
   have bp:n≤cp:=XaM ao U
   have hr:=hI.row id l es z' true hl hm
   by_cases R:new.isEmpty=true
   ·rw[if_pos R]at C
    cases C
    have:new=[]:=XbN.1 R
    subst this
    have bg:vals=[]:=by simpa[VL]using hv
    subst bg
    refine⟨_,w,φ,S,Zep (base:=some ad) ht hu hz hn hlen af (by simpa using bp) (by rfl),hI,Evo.refl _ _ _ _ _, ?_,fun _ _=>rfl⟩
    simp only[VRel];exact⟨l,ad,cp,hl,by simp,ao,U,aa⟩
   ·rw[if_neg R]at C
    have bo:0<new.length:=by cases new with|nil=>simp at R|cons _ _=>simp
    by_cases ab:n+new.length≤room
    ·rw[if_pos ab]at C
     obtain⟨b8,C⟩:=Zar C
     cases C
     rcases aa with⟨h0,b0⟩|⟨rfl,ai⟩
     ·omega
     ·obtain⟨h1,h2,h3⟩:=ZgQ (P:=P) (i:=j+n) (new:=new) hI hl hm a1 hv ho (by omega)
      have e1:l.o+j*l.z+n*z'=l.o+(j+n)*z':=by rw[hr.zs,Xa4];omega
      have aq:=Zep (ts:=ts) (ty:=ty) (base:=some ⟨l.b,l.o+j*l.z,none⟩) (w':=w.setCells l.b (l.o+(j+n)*z') vals) ht hu hz hn hlen af (XaM ab U) (by
       show(storeCells ((⟨l.b,l.o+j*l.z,none⟩:Addr).add (n*z')) vals).run P w=_
       rw[Addr.add_lit,e1];exact h1)
      refine⟨_,_,φ,S,aq,h2,h3, ?_,fun _ _=>rfl⟩
      simp only[VRel]
      exact⟨l,_,cp,hl,rfl,ab,U, .inr ⟨rfl,ai⟩⟩
    rw[if_neg ab]at C
    obtain⟨hb,C⟩:=Zar C
    cases C
    have b6:=(hI.live id l hl).2.2
    have an:φ H.length=none:=by
     cases hc:φ H.length with
     |none=>rfl
     |some l=>have:=(hI.live _ l hc).2.2;omega
    have hold:VE φ w S ((es.drop j).take n) l.b (l.o+j*l.z):=by rw[hr.zs];exact VE.take n (VE.drop j hr.wid (by omega) hr.cells)
    have ae: ∀c∈(es.drop j).take n,c.length=z':=fun c hc=>hr.wid c (Xbl (XaH hc))
    have I:((es.drop j).take n).length=n:=by rw[Xas,XaZ];omega
    obtain⟨olds,bq,b1,b2⟩:=VC.vals (VE.flat hold)
    have ar:olds.length=n*z':=by rw[VL.length bq,ZaU _ ae,I]
    have au: ∀c∈(es.drop j).take n++new,c.length=z':=fun c hc=>(XaA.1 hc).elim (ae c) (a1 c)
    have ag:Inv φ (H.set id .dead++ [Mem.row ((es.drop j).take n++new) z' true]) w S B:=hI.reheap (fun k lk J=>by
     have av:=(hI.live k lk J).2.2
     rw[Xar (by simpa using av)]
     by_cases ak:k=id
     ·subst ak;right;simp[av]
     ·left;rw[XaD (fun e=>ak e.symm)]) (by simp)
    have aw:(H.set id .dead++ [Mem.row ((es.drop j).take n++new) z' true])[H.length]? =some (.row ((es.drop j).take n++new) z' true):=by
     rw[XaE (by simp)];simp
    by_cases bb:n+new.length≤cp
    ·
     rcases aa with⟨h0,b0⟩|⟨rfl,ai⟩
     ·omega
     ·have ax:=hr.zs
      rw[ax]at ai
      have b9:(j+n)*z'+new.length*z'≤l.top:=by
       rw[←Xa4]
       exact XaM (Xa8 _ (by omega)) ai
      have e1:l.o+j*l.z+n*z'=l.o+(j+n)*z':=by rw[ax,Xa4];omega
      have ah: ∀k,k<vals.length→(w.cell? ⟨l.b,l.o+(j+n)*z'+k,none⟩).isSome=true∧w.frozen? ⟨l.b,l.o+(j+n)*z'+k,none⟩=false:=by
       intro k J
       have:=Zd4 hr ((j+n)*z'+k) (by omega)
       rwa[←Xbt]at this
      have b3:=run_storeCells_cells (P:=P) l.b (l.o+(j+n)*z') vals 0 w (fun k J=>by simpa using(ah k J).1) (fun k J=>by simpa using(ah k J).2) (Zlb hv ho)
      have aq:=Zep (ts:=ts) (ty:=ty) (base:=some ⟨l.b,l.o+j*l.z,none⟩) (w':=w.setCells l.b (l.o+(j+n)*z') vals) ht hu hz hn hlen af bb (by
       show(storeCells ((⟨l.b,l.o+j*l.z,none⟩:Addr).add (n*z')) vals).run P w=_
       rw[Addr.add_lit,e1];simpa using b3)
      let l':Loc:=⟨l.b,l.o+j*z',z',l.top-j*z'⟩
      let φ':Phi:=fun k=>if k=H.length then some l' else φ k
      have hp: ∀k lk,φ k=some lk→φ' k=some lk:=by
       intro k lk J
       show(if k=H.length then _ else φ k)=_
       rw[if_neg]
       ·exact J
       ·rintro rfl;rw[an]at J;cases J
      have bj: ¬S l.b:=hr.own rfl
      have br: ∀k,S k→S k∧(w.setCells l.b (l.o+(j+n)*z') vals).heap[k]? =w.heap[k]? :=fun k J=>⟨J,ZbA _ _ _ _ _ (by rintro rfl;exact bj J)⟩
      have ca:(j+n)*z'=j*z'+n*z':=Xa4 _ _ _
      have aj:=ag.patch (w':=w.setCells l.b (l.o+(j+n)*z') vals) (id:=H.length) (l:=l') (φ':=φ') (H':=H.set id .dead++ [Mem.row ((es.drop j).take n++new) z' true]) (if_pos rfl) (fun k J=>if_neg J) (.inl an) aw (fun _ _ _ _=> .inl rfl) (Xan _)
       (Zb5 _ _ _ _) (Zc3 _ _ _ _) (fun b hb=>ZbA _ _ _ _ _ hb) bj (hI.live id l hl).1 (hI.live id l hl).2.1
       (by
        intro k lk m J bs ay ha
        have av:=(hI.live k lk bs).2.2
        rw[Xar (by simpa using av)]at ay
        by_cases ak:k=id
        ·subst ak;simp[av]at ay;subst ay;simp[Mem.alive]at ha
        ·rw[XaD (fun e=>ak e.symm)]at ay
         exact hI.apart k id lk l m _ ak bs hl ay hm ha rfl)
       ⟨rfl,by simp only[Xaw,I];show(n+new.length)*z'≤l.top-j*z';rw[Xa4];omega,au,by
        refine VE.append ae (VE.of_flat ?_) ?_
        ·have az:=VC.keep (φ':=φ') hp br _ _ (.inl (by rw[ZaU _ ae,I,ax];omega)) (VE.flat hold)
         rw[ax]at az
         exact az
        ·rw[I]
         show VE φ' _ S new l.b (l.o+j*z'+n*z')
         rw[show l.o+j*z'+n*z'=l.o+(j+n)*z' from by omega]
         exact VE.of_flat (VC.fresh hp br hv ho (fun k J=>(ah k J).1)),by
        obtain⟨cur,e',fz,h1,h2,h3⟩:=hr.blk
        obtain⟨bc,h4,h5⟩:=ZdN l.b vals (l.o+(j+n)*z') w cur e' fz h1
        refine⟨bc,e',fz,h4, ?_,fun cb k J=>by rw[World.frozen?_setCells];exact h3 rfl k (by omega)⟩
        show l.o+j*z'+(l.top-j*z')≤bc.size
        omega,fun _=>bj,fun h=>by cases h⟩
      refine⟨_,_,φ',S,aq,aj.1,aj.2.mono (by simp), ?_,fun i hi=>if_neg (by omega)⟩
      simp only[VRel]
      refine⟨l',_,cp,if_pos rfl,rfl,Xan _,bb, .inr ⟨by show _=(⟨l.b,l.o+j*z'+0*z',none⟩:Addr);rw[ax];simp, ?_⟩⟩
      show(0+cp)*z'≤l.top-j*z'
      have:(j+cp)*z'=j*z'+cp*z':=Xa4 _ _ _
      simp only[Xaq]
      omega
    ·
     have b4:(Builtin.firstCells z' n (.slice (some ad) n cp)).run P w.drew= .ok olds.toArray w.drew:=by
      rcases aa with⟨h0,_⟩|⟨rfl,_⟩
      ·subst h0
       have:olds=[]:=XaY.1 (by simpa using ar)
       subst this
       simp[Builtin.firstCells,loadCells,loadCellsFrom]
      ·have:=run_loadCells_list (P:=P) w.drew ⟨l.b,l.o+j*l.z,none⟩ olds (fun k v J=>by rw[Addr.add_lit];exact b2 k v J)
       rw[ar]at this
       simpa[Builtin.firstCells]using this
     have b5:=Zht (ts:=ts) (ty:=ty) (sLen:=n) (sCap:=cp) (base:=some ad) (olds:=olds) ht hu hi a7 a8 bm hn hlen al b4 (by omega) a6 hb
     have bh:=grownCap_ge w (n+new.length) cp e
     obtain⟨φ',S',h2,h3,h4,h5⟩:=ZjM (e:=e) (zv:=zv) (sLen:=n) (n:=new.length) (olds:=olds) (vals:=vals) (id:=H.length) ag an aw (grownCap w (n+new.length) cp e) bh au (by simp[I])
      (by rw[List.flatten_append];exact VL.append bq hv) (by intro c hc;rw[List.flatten_append]at hc;exact(XaA.1 hc).elim (b1 c) (ho c)) ba
     exact⟨_,_,φ',S',b5,h2,h3.mono (by simp),h4,fun i hi=>h5 i (by omega)⟩
  ·cases C
 ·cases C
end
variable [Laid]
open Go.RowKit
section
variable {P : Program} {h : Hints} {E : Ev} {w : World} {φ : Phi} {S : Nat → Prop} {B : Nat} {H : List Mem}
theorem Zds {H:List Mem} {id:Nat} {m:Mem} (h:H[id]? =some m):H.set id m=H:=by
 apply List.ext_getElem?
 intro j
 by_cases C:id=j
 ·subst C
  rw[XaK (Xae.1 h).1,h]
 ·rw[XaD C]
theorem ZgE {ts:Array TypeId} {ty:TypeId} {s x v:PV} {sv xv:Value} {H':List Mem} (hI:Inv φ H w S B) (j:Zcw P H ts s x=some (v,H')) (hs:VRel φ w S s sv) (hx:VRel φ w S x xv):
 ∃u w' φ' S',(Builtin.append_ ts ty #[sv,xv]).run P w= .ok u w'∧Inv φ' H' w' S' B∧Evo H.length B φ S w φ' S' w'∧VRel φ' w' S' v u∧ ∀i,i<H.length→φ' i=φ i:=by
 unfold Zcw at j
 obtain⟨t,ht,j⟩:=Zak j
 obtain⟨e,he,j⟩:=Zak j
 obtain⟨z,hz,j⟩:=Zak j
 obtain⟨by_,I,j⟩:=Zak j
 obtain⟨zero,J,j⟩:=Zak j
 obtain⟨new,C,j⟩:=Zak j
 obtain⟨⟨hn,R,U,aa,hh⟩,j⟩:=Zar j
 exact Zlu hI ht (Zd1 he) hz I J C hn R U aa hh j hs hx
theorem Zm9 {ts:Array TypeId} {ty:TypeId} {d x v:PV} {dv xv:Value} {H':List Mem} (hI:Inv φ H w S B) (j:ZnZ P H ts d x=some (v,H')) (hd:VRel φ w S d dv) (hx:VRel φ w S x xv):
 ∃u w',(Builtin.copy_ ts ty #[dv,xv]).run P w= .ok u w'∧Inv φ H' w' S B∧Evo H.length B φ S w φ S w'∧VRel φ w' S v u:=by
 unfold ZnZ at j
 obtain⟨t,ht,g1⟩:=Zak j
 obtain⟨e,he,g2⟩:=Zak g1
 obtain⟨z,hz,g3⟩:=Zak g2
 obtain⟨src,ab,g4⟩:=Zak g3
 obtain⟨⟨aq,hh⟩,g5⟩:=Zar g4
 clear j g1 g2 g3 g4
 have j:=g5
 clear g5
 have hu:=Zd1 he
 obtain⟨hlen,ae,vals,hv,ho,af⟩:=Zi8 (P:=P) hI ab hx hh
 have ag:(#[dv,xv]:Array Value)[0]? =some dv:=rfl
 have ah:(#[dv,xv]:Array Value)[1]? =some xv:=rfl
 split at j
 ·cases j
  simp only[VRel]at hd;subst hd
  have I:=af w 0 (Xao _) (fun _ _=>rfl)
  refine⟨.int .i64 0,w, ?_,hI,Evo.refl _ _ _ _ _,Zbj _ _⟩
  have J:Nat.min src.length 0=0:=Nat.min_zero _
  simp only[Builtin.copy_,ht,ag,ah,Sem.run_bind,run_underlying hu,Result.andThen_ok,hlen,ZaH hz,J,I]
  rfl
 ·rename_i id i n room
  split at j
  ·rename_i es z' hm
   obtain⟨⟨ak,hle⟩,j⟩:=Zar j
   subst ak
   cases j
   simp only[VRel]at hd
   obtain⟨l,ad,cp,hl,rfl,R,U,aa⟩:=hd
   have ao:n≤cp:=XaM R U
   have hr:=hI.row id l es z' true hl hm
   have hk:min src.length n≤src.length:=Nat.min_le_left _ _
   have ar:min src.length n≤n:=Nat.min_le_right _ _
   have I:=af w (min src.length n) hk (fun _ _=>rfl)
   have ai:(src.take n).length=min src.length n:=by rw[Xas,Nat.min_comm]
   have aj:(src.take n).flatten=src.flatten.take (min src.length n*z'):=by
    have h1:src.flatten=(src.take n).flatten++(src.drop n).flatten:=by rw[←List.flatten_append,XaR]
    have h2:(src.take n).flatten.length=min src.length n*z':=by rw[ZaU _ (fun x hx=>ae x (XaH hx)),ai]
    rw[h1,←h2,List.take_left' rfl]
   have al:VL φ w S (src.take n).flatten (vals.take (min src.length n*z')):=by rw[aj];exact VL.take _ hv
   have C: ∀w',(storeCells ad (vals.take (min src.length n*z'))).run P w= .ok () w'→(Builtin.copy_ ts ty #[.slice (some ad) n cp,xv]).run P w= .ok (.int .i64 (min src.length n:Nat)) w':=by
    intro w' an
    have J:Nat.min src.length n=min src.length n:=rfl
    simp only[Builtin.copy_,ht,ag,ah,Sem.run_bind,run_underlying hu,Result.andThen_ok,hlen,ZaH hz,J,I,List.toList_toArray,an]
    rfl
   rcases aa with⟨h0,_⟩|⟨rfl,_⟩
   ·subst h0
    have e0:src.take 0=[]:=rfl
    have e1:min src.length 0=0:=Nat.min_zero _
    refine⟨_,w,C w (by rw[e1];simp[storeCells]), ?_,Evo.refl _ _ _ _ _,Zbj _ _⟩
    rw[e0,Zg4,Zds hm]
    exact hI
   ·obtain⟨h1,h2,h3⟩:=ZgQ (P:=P) (i:=i) (new:=src.take n) hI hl hm (fun c hc=>ae c (XaH hc)) al (fun c hc=>ho c (by rw[aj]at hc;exact XaH hc)) (by rw[ai];omega)
    rw[hr.zs]at C⊢
    exact⟨_,_,C _ h1,h2,h3,Zbj _ _⟩
  ·cases j
 ·cases j
theorem ZlP {ts:Array TypeId} {ty:TypeId} {d v:PV} {dv:Value} {H':List Mem} (hI:Inv φ H w S B) (j:Zji P H ts d=some (v,H')) (hd:VRel φ w S d dv):
 ∃u w',(Builtin.clear_ ts ty #[dv]).run P w= .ok u w'∧Inv φ H' w' S B∧Evo H.length B φ S w φ S w'∧VRel φ w' S v u:=by
 unfold Zji at j
 obtain⟨t,ht,g1⟩:=Zak j
 obtain⟨e,he,g2⟩:=Zak g1
 obtain⟨z,hz,g3⟩:=Zak g2
 obtain⟨zero,ag,g4⟩:=Zak g3
 obtain⟨⟨aq,aa⟩,g5⟩:=Zar g4
 clear j g1 g2 g3 g4
 have j:=g5
 clear g5
 have hu:=Zd1 he
 obtain⟨ti,zv,ah,ai,ab,aj⟩:=Zch (w:=w) (φ:=φ) (S:=S) ag
 have ak:(zeroValue e).run P w= .ok zv w:=by simp[zeroValue,typeInfo,ah,ai]
 have an:zv.cells.size=z:=by have:=VL.length ab;simpa[aa]using this
 have I:(#[dv]:Array Value)[0]? =some dv:=rfl
 have C:VRel φ w S (.tup []) (.tuple #[]):=by simp only[VRel,VL];exact⟨#[],rfl,rfl⟩
 split at j
 ·cases j
  simp only[VRel]at hd;subst hd
  refine⟨.tuple #[],w, ?_,hI,Evo.refl _ _ _ _ _,C⟩
  simp only[Builtin.clear_,ht,I,Sem.run_bind,run_underlying hu,Result.andThen_ok]
  rfl
 ·rename_i id i n room
  split at j
  ·rename_i es z' hm
   obtain⟨⟨al,hle⟩,j⟩:=Zar j
   subst al
   cases j
   simp only[VRel]at hd
   obtain⟨l,ad,cp,hl,rfl,J,R,U⟩:=hd
   have ao:n≤cp:=XaM J R
   have hr:=hI.row id l es z' true hl hm
   cases n with
   |zero=>
    refine⟨.tuple #[],w, ?_, ?_,Evo.refl _ _ _ _ _,C⟩
    ·simp only[Builtin.clear_,ht,I,Sem.run_bind,run_underlying hu,Result.andThen_ok]
     rfl
    ·rw[List.replicate_zero,Zg4,Zds hm];exact hI
   |succ n=>
    rcases U with⟨h0,_⟩|⟨rfl,_⟩
    ·omega
    ·have ae: ∀k,VL φ w S (List.replicate k zero).flatten (List.replicate k zv.cells.toList).flatten:=by
      intro k
      induction k with
      |zero=>simp[VL]
      |succ k ih=>simp only[List.replicate_succ,XbK];exact VL.append ab ih
     obtain⟨h1,h2,h3⟩:=ZgQ (P:=P) (i:=i) (new:=List.replicate (n+1) zero) hI hl hm (by intro c hc;rw[(List.mem_replicate.1 hc).2];exact aa) (ae (n+1))
      (by intro x hx;simp only[List.mem_flatten,List.mem_replicate]at hx;obtain⟨y,⟨_,rfl⟩,hx⟩:=hx;exact aj x hx) (by simpa using hle)
     refine⟨.tuple #[],_, ?_,h2,h3, ?_⟩
     ·have af:(Builtin.zeroCells zv.cells (n+1)).toList=(List.replicate (n+1) zv.cells.toList).flatten:=by rw[ZhL];exact ZcT _ _
      simp only[Builtin.clear_,ht,I,Sem.run_bind,run_underlying hu,Result.andThen_ok,ak,af]
      rw[hr.zs,h1]
      rfl
     ·simp only[VRel,VL];exact⟨#[],rfl,rfl⟩
  ·cases j
 ·cases j
theorem Zhs {key:Ky} {d:TypeDesc} (hd:ZfH key d=true) {v:PV} {vv:Value}: ∀ {es es':List (PV×PV)} {C:List MapEntry} (i:Nat),ZeD key v es=some es'→VM φ w S es C→VRel φ w S v vv→
 (∃j u,Instr.findNow d key.val C i=some (some (i+j,u))∧ ∃e,C[j]? =some e∧e.key=key.val∧VM φ w S es' (C.modify j fun e=>{e with key:=key.val,val:=vv}))∨
 (Instr.findNow d key.val C i=some none∧ ∀b,VM φ w S es' (C++ [{key:=key.val,val:=vv,born:=b}]))
 | [],es',C,i,h,hv,hx=>by
  simp only[ZeD,Xaf]at h;subst h
  simp only[VM]at hv;subst hv
  exact .inr ⟨rfl,fun b=>⟨_,[],rfl,Zwk _,hx,rfl⟩⟩
 |(k,u)::es,es',C,i,h,hv,hx=>by
  obtain⟨e,l',rfl,hk,R,hr⟩:=hv
  rw[ZeD]at h
  cases hb:Zx5 key k with
  |none=>rw[hb]at h;cases h
  |some b=>
   rw[hb,Xab]at h
   obtain⟨J,h0⟩:=Zj9 hd hb hk
   cases b with
   |true=>
    cases h
    left
    refine⟨0,e.val,by simp only[Instr.findNow,J,Nat.add_zero],e,rfl,h0 rfl, ?_⟩
    exact⟨_,l',rfl,Zwk _,hx,hr⟩
   |false=>
    rw[cond_false]at h
    cases I:ZeD key v es with
    |none=>simp[I]at h
    |some aa=>
     simp only[I,Xak,Xaf]at h
     subst h
     have U:Instr.findNow d key.val (e::l') i=Instr.findNow d key.val l' (i+1):=by simp only[Instr.findNow,J]
     rcases Zhs hd (i+1) I hr hx with⟨j,u',J,e2,h2,h3,h4⟩|⟨J,h2⟩
     ·left
      refine⟨j+1,u',by rw[U,J];congr 3;omega,e2,by simpa using h2,h3, ?_⟩
      exact⟨e,_,rfl,hk,R,h4⟩
     ·right
      exact⟨by rw[U,J],fun b=>⟨e,_,rfl,hk,R,h2 b⟩⟩
theorem ZnO (key:Ky):Instr.sameBits 10000 key.val key.val=true:=by
 show Instr.sameBits (9999+1) key.val key.val=true
 cases key with
 |s b=>
  have j:(b==b)=true:=by rw[Zmu];exact beq_self_eq_true _
  simp only[Ky.val,Instr.sameBits,j]
 |i k n=>simp[Ky.val,Instr.sameBits]
theorem Inv.patchMap {w':World} {id:Nat} {l:Loc} {es es':List (PV×PV)} {U:Array MapEntry} {clock:Nat} (hI:Inv φ H w S B) (hl:φ id=some l) (hm:H[id]? =some (.map es)) (aa:w'.os=w.os∧w'.tape=w.tape∧w'.output=w.output) (ad:w'.heap.size=w.heap.size)
 (J: ∀b,b≠l.b→w'.heap[b]? =w.heap[b]?) (aj:w'.heap[l.b]? =some (.map U clock)) (hv:VMc φ w S es' U.toList clock):Inv φ (H.set id (.map es')) w' S B∧Evo H.length B φ S w φ S w':=by
 obtain⟨ak,_⟩:=hI.map id l es hl hm
 have hs: ∀b,S b→S b∧w'.heap[b]? =w.heap[b]? :=fun b hb=>⟨hb,J b (by rintro rfl;exact ak hb)⟩
 have al:=(hI.live id l hl).2.2
 have C: ∀j m,(H.set id (.map es'))[j]? =some m→(j=id∧m= .map es')∨(j≠id∧H[j]? =some m):=by
  intro j m hj
  by_cases ah:j=id
  ·subst ah;simp[al]at hj;exact .inl ⟨rfl,hj.symm⟩
  ·rw[XaD (fun e=>ah e.symm)]at hj;exact .inr ⟨ah,hj⟩
 have an: ∀j lj m,j≠id→φ j=some lj→H[j]? =some m→m.alive=true→lj.b≠l.b:=fun j lj m hj ar ae ha=>hI.apart j id lj l m _ hj ar hl ae hm ha rfl
 refine⟨⟨?_, ?_, ?_, ?_,fun b hb=>by rw[ad];exact hI.stable b hb,by rw[ad];exact hI.base,Laid.mono _ _ _ _ hs hI.laid⟩,fun i x _ h=>h,hs,fun _ _ I=>I,aa.1,aa.2.1,aa.2.2,by rw[ad];exact Xan _,fun k hk=>J k (by have:=(hI.live id l hl).1;omega)⟩
 ·intro i x I
  have:=hI.live i x I
  exact⟨this.1,by rw[ad];exact this.2.1,by simpa using this.2.2⟩
 ·intro i x ai z m I ab
  rcases C i _ ab with⟨_,R⟩|⟨af,R⟩
  ·cases R
  ·exact(hI.row i x ai z m I R).mono (fun _ _ h=>h) hs (J _ (an i x _ af I R rfl)) (fun y=>y)
 ·intro i x ai I ab
  rcases C i _ ab with⟨rfl,R⟩|⟨af,R⟩
  ·cases R
   rw[hl]at I;cases I
   exact⟨ak,U,clock,aj,VMc.mono (fun _ _ h=>h) hs hv⟩
  ·obtain⟨h3,en,cl,h4,h5⟩:=hI.map i x ai I R
   exact⟨h3,en,cl,by rw[J _ (an i x _ af I R rfl)];exact h4,VMc.mono (fun _ _ h=>h) hs h5⟩
 ·intro i j x y m m' ag I hy ab ae ha ao
  rcases C i _ ab with⟨rfl,R⟩|⟨af,R⟩
  ·rcases C j _ ae with⟨rfl,_⟩|⟨aq,h2⟩
   ·exact absurd rfl ag
   ·exact hI.apart _ _ x y _ _ ag I hy hm h2 rfl ao
  ·rcases C j _ ae with⟨rfl,_⟩|⟨aq,h2⟩
   ·exact hI.apart _ _ x y _ _ ag I hy R hm ha rfl
   ·exact hI.apart _ _ x y _ _ ag I hy R h2 ha ao
theorem Zfz {r:Nat} {I j:Array MapEntry} {c C:Nat} (J:w.heap[r]? =some (.map I c)):(setObj r (.map j C)).run P w= .ok () {w with heap:=w.heap.setIfInBounds r (.map j C)}:=by
 simp[setObj,Sem.run,J]
theorem Zj0 {t:TypeId} {m k x:PV} {mv kv xv:Value} {H':List Mem} {v:PV} (hI:Inv φ H w S B) (aa:ZpS P H t (some m) (some k) (some x)=some (v,H')) (hm:VRel φ w S m mv) (hk:VRel φ w S k kv) (hx:VRel φ w S x xv):
 ∃w',(Instr.mapUpdate t mv kv xv).run P w= .ok () w'∧v= .tup []∧Inv φ H' w' S B∧Evo H.length B φ S w φ S w':=by
 unfold ZpS at aa
 obtain⟨e,he,g1⟩:=Zak aa
 simp only[Xab]at g1
 obtain⟨key,ad,g2⟩:=Zak g1
 clear aa g1
 have ah:=ZjD ad
 subst ah
 have hk:=Zwa hk
 subst hk
 obtain⟨kt,hu,I⟩:=Zkc he
 cases hd:ZfH key e.1 with
 |false=>rw[hd]at g2;cases g2
 |true=>
 rw[hd,cond_true]at g2
 split at g2
 ·rename_i id
  split at g2
  ·rename_i es R
   cases hp:ZeD key x es with
   |none=>simp[hp]at g2
   |some es'=>
    simp only[hp,Xak,Xaf,Prod.mk.injEq]at g2
    obtain⟨rfl,rfl⟩:=g2
    simp only[VRel]at hm
    obtain⟨l,hl,rfl⟩:=hm
    obtain⟨_,C,clock,hb,hv,ae⟩:=hI.map id l es hl R
    have ai:=(hI.live id l hl).2.1
    have af:(getObj l.b).run P w= .ok (.map C clock) w:=by simp[getObj,Sem.run,hb]
    have U: ∀ (J:Array MapEntry) (c':Nat),VMc φ w S es' J.toList c'→Inv φ (H.set id (.map es')) {w with heap:=w.heap.setIfInBounds l.b (.map J c')} S B∧Evo H.length B φ S w φ S {w with heap:=w.heap.setIfInBounds l.b (.map J c')}:=by
     intro J c' aj
     refine hI.patchMap (clock:=c') hl R ⟨rfl,rfl,rfl⟩ (by simp) (fun b ak=> ?_) ?_ aj
     ·simp only[Array.getElem?_setIfInBounds]
      rw[if_neg (fun e=>ak e.symm)]
     ·simp only[Array.getElem?_setIfInBounds]
      simp[ai]
    rcases Zhs hd 0 hp hv hx with⟨j,u,h1,e2,h2,h3,h4⟩|⟨h1,h2⟩
    ·have ab:(Instr.findKey kt key.val C.toList).run P w= .ok (some (0+j,u)) w:=by simp[Instr.findKey,run_underlying I,h1]
     have hs:=U (C.modify (0+j) fun e=>{e with key:=key.val,val:=xv}) clock (by
      rw[Array.toList_modify,Xaq]
      refine⟨h4,fun e he=> ?_⟩
      obtain⟨i,hi⟩:=List.mem_iff_getElem?.1 he
      rw[List.getElem?_modify]at hi
      obtain⟨e0,h5,h6⟩:=Option.map_eq_some_iff.1 hi
      have:=ae e0 (XaI h5)
      subst h6
      split<;>exact this)
     have al:C[0+j]? =some e2:=by rw[Xaq];simpa using h2
     have ag:(Instr.keyThatStays (((C[0+j]?).map (·.key)).getD key.val) key.val).run P w= .ok key.val w:=by
      rw[al]
      simp only[Xak,Xby,h3,Instr.keyThatStays,ZnO,if_true,Sem.run_pure]
     refine⟨_, ?_,rfl,hs.1,hs.2⟩
     simp only[Instr.mapUpdate,Sem.run_bind,run_underlying hu,Result.andThen_ok,af,ZcH I hd,ab,ag,Zfz hb]
    ·have ab:(Instr.findKey kt key.val C.toList).run P w= .ok none w:=by simp[Instr.findKey,run_underlying I,h1]
     have hs:=U (C.push {key:=key.val,val:=xv,born:=clock}) (clock+1) (by
      rw[Array.toList_push]
      refine⟨h2 clock,fun e he=> ?_⟩
      rcases XaA.1 he with he|he
      ·exact Nat.lt_succ_of_lt (ae e he)
      ·rw[Xat.1 he];exact Nat.lt_succ_self _)
     refine⟨_, ?_,rfl,hs.1,hs.2⟩
     simp only[Instr.mapUpdate,Sem.run_bind,run_underlying hu,Result.andThen_ok,af,ZcH I hd,ab,Zfz hb]
  ·cases g2
 ·cases g2
variable {tm : List (Nat × PV)} {N : Nat} {o : Oper} {a : Act} {K : Act → World → Prop} {Q : Exit → Act → World → Prop}
theorem Zfp {w':World} (h:(execOp a.eval o).run P w= .ok .skip w') (j:K (a.put o.dst undef) w'):o.wp P a w K Q:=by
 unfold Oper.wp;rw[h];exact j
theorem ZaQ (H:List Mem) (i j:Nat):(freeze1 H i)[j]? =H[j]?∨(i=j∧ ∃es z m,H[j]? =some (.row es z m)∧(freeze1 H i)[j]? =some (.row es z false)):=by
 unfold freeze1
 split
 ·rename_i es z m hm
  by_cases C:i=j
  ·subst C
   right
   exact⟨rfl,es,z,m,hm,by simp[(Xae.1 hm).1]⟩
  ·left;rw[XaD C]
 ·exact .inl rfl
theorem Zb0 (H:List Mem) (i:Nat):(freeze1 H i).length=H.length:=by
 unfold freeze1;split<;>simp
theorem ZaS: ∀ (ids:List Nat) (H:List Mem),(freeze ids H).length=H.length
 | [],H=>rfl
 |i::ids,H=>by show(freeze ids (freeze1 H i)).length=_;rw[ZaS ids,Zb0]
theorem Inv.freeze1 (hI:Inv φ H w S B) (i:Nat): ∃S',Inv φ (freeze1 H i) w S' B∧Evo H.length B φ S w φ S' w∧(∀l es z m,φ i=some l→H[i]? =some (.row es z m)→S' l.b):=by
 cases hl:φ i with
 |none=>
  refine⟨S,⟨fun j l h=>by rw[Zb0];exact hI.live j l h, ?_, ?_, ?_,hI.stable,hI.base,hI.laid⟩,Evo.refl _ _ _ _ _,fun l es z m h=>by cases h⟩
  ·intro j l es z m J hm
   rcases ZaQ H i j with h|⟨rfl,_⟩
   ·exact hI.row j l es z m J (by rw[←h];exact hm)
   ·rw[hl]at J;cases J
  ·intro j l es J hm
   rcases ZaQ H i j with h|⟨rfl,_⟩
   ·exact hI.map j l es J (by rw[←h];exact hm)
   ·rw[hl]at J;cases J
  ·intro j k x y m m' ae hx hy hm ah ha af
   rcases ZaQ H i j with h|⟨rfl,_⟩
   ·rcases ZaQ H i k with h'|⟨rfl,_⟩
    ·exact hI.apart j k x y m m' ae hx hy (by rw[←h];exact hm) (by rw[←h'];exact ah) ha af
    ·rw[hl]at hy;cases hy
   ·rw[hl]at hx;cases hx
 |some l=>
  by_cases ab: ∃es z m,H[i]? =some (.row es z m)
  ·obtain⟨es,z,m,hm⟩:=ab
   let S':Nat→Prop:=fun b=>S b∨b=l.b
   have hs: ∀b,S b→S' b∧w.heap[b]? =w.heap[b]? :=fun b hb=>⟨.inl hb,rfl⟩
   have hB:=(hI.live i l hl).1
   have aa: ∀ (j:Nat) (m':Mem),(Am.freeze1 H i)[j]? =some m'→m'.alive=true→ ∃m2:Mem,H[j]? =some m2∧m2.alive=true:=by
    intro j m' J ha
    rcases ZaQ H i j with h|⟨rfl,U,z2,m2,h1,h2⟩
    ·exact⟨m',by rw[←h];exact J,ha⟩
    ·exact⟨_,h1,rfl⟩
   refine⟨S',⟨fun j l h=>by rw[Zb0];exact hI.live j l h, ?_, ?_, ?_, ?_,hI.base,Laid.mono _ _ _ _ hs hI.laid⟩,⟨fun _ _ _ h=>h,hs,fun b hb h=>h.elim id (fun h=>by omega),Below.refl _ _⟩,fun l' es z m h _=>by cases h;exact .inr rfl⟩
   ·intro j lj U z2 m2 J C
    rcases ZaQ H i j with h|⟨rfl,ai,z3,m3,h1,h2⟩
    ·have R:H[j]? =some (.row U z2 m2):=by rw[←h];exact C
     by_cases ad:i=j
     ·subst ad
      rw[hl]at J;cases J
      have I:=hI.row i l U z2 m2 hl R
      refine⟨I.zs,I.top,I.wid,VE.mono (fun _ _ h=>h) hs _ _ _ rfl I.cells,I.blk, ?_,fun _=> .inr rfl⟩
      intro aj
      have:(Am.freeze1 H i)[i]? =some (.row es z false):=by unfold Am.freeze1;rw[hm];simp[(Xae.1 hm).1]
      rw[this]at C;cases C;cases aj
     ·refine(hI.row j lj U z2 m2 J R).mono (fun _ _ h=>h) hs rfl ?_
      rintro(h'|h')
      ·exact h'
      ·exact absurd h' (hI.apart j i lj l _ _ (fun e=>ad e.symm) J hl R hm rfl rfl)
    ·rw[h2]at C;cases C
     rw[hl]at J;cases J
     have I:=hI.row i l _ _ m3 hl h1
     exact⟨I.zs,I.top,I.wid,VE.mono (fun _ _ h=>h) hs _ _ _ rfl I.cells,by
      obtain⟨cur,e,fz,h1,h2,_⟩:=I.blk
      exact⟨cur,e,fz,h1,h2,fun h=>by cases h⟩,fun h=>by(cases h),fun _=> .inr rfl⟩
   ·intro j lj U J C
    rcases ZaQ H i j with h|⟨rfl,ai,z3,m3,h1,h2⟩
    ·have R:H[j]? =some (.map U):=by rw[←h];exact C
     have ad:j≠i:=by rintro rfl;rw[hm]at R;cases R
     obtain⟨h4,ag,clock,h5,h6⟩:=hI.map j lj U J R
     refine⟨?_,ag,clock,h5,VMc.mono (fun _ _ h=>h) hs h6⟩
     rintro(h'|h')
     ·exact h4 h'
     ·exact absurd h' (hI.apart j i lj l _ _ ad J hl R hm rfl rfl)
    ·rw[h2]at C;cases C
   ·intro j k x y m1 m2 ae hx hy ak C ha af
    obtain⟨ao,h1,al⟩:=aa j m1 ak ha
    obtain⟨aq,h2,an⟩:=aa k m2 C af
    exact hI.apart j k x y _ _ ae hx hy h1 h2 al an
   ·rintro b (hb|rfl)
    ·exact hI.stable b hb
    ·exact(hI.live i l hl).2.1
  ·have:Am.freeze1 H i=H:=by
    unfold Am.freeze1
    split
    ·rename_i es z m hm;exact absurd ⟨es,z,m,hm⟩ ab
    ·rfl
   rw[this]
   exact⟨S,hI,Evo.refl _ _ _ _ _,fun l es z m _ hm=>absurd ⟨es,z,m,hm⟩ ab⟩
theorem Inv.freeze: ∀ (ids:List Nat) {H:List Mem} {S:Nat→Prop},Inv φ H w S B→ ∃S',Inv φ (freeze ids H) w S' B∧Evo H.length B φ S w φ S' w∧(∀i∈ids,∀l es z m,φ i=some l→H[i]? =some (.row es z m)→S' l.b)
 | [],H,S,hI=>⟨S,hI,Evo.refl _ _ _ _ _,by simp⟩
 |i::ids,H,S,hI=>by
  obtain⟨S1,U,h2,h3⟩:=hI.freeze1 i
  obtain⟨S2,h4,C,R⟩:=Inv.freeze ids U
  refine⟨S2,h4,h2.trans (by rw[Zb0]at C;exact C), ?_⟩
  intro j hj l es z m I hm
  rcases Xav.1 hj with rfl|hj
  ·exact(C.st _ (h3 l es z m I hm)).1
  ·rcases ZaQ H i j with h|⟨rfl,J,z3,m3,h7,h8⟩
   ·exact R j hj l es z m I (by rw[h];exact hm)
   ·exact R i hj l J z3 false I h8
end
variable [Laid]
open Go.RowKit
def Sub (H Hs:List Mem):Prop:= ∀ (id:Nat) (m:Mem),H[id]? =some m→ ∃j,Hs[id]? =some j∧simM m j
section
variable {P : Program} {h : Hints} {E : Ev} {H Hs : List Mem}
theorem Sub.row (I:Sub H Hs) {id:Nat} {es:List (List PV)} {z:Nat} {m:Bool} (h:H[id]? =some (.row es z m)): ∃j,Hs[id]? =some (.row es z j):=by
 obtain⟨j,J,C⟩:=I id _ h
 cases j<;>simp[simM]at C
 obtain⟨rfl,rfl⟩:=C
 exact⟨_,J⟩
theorem Sub.map (C:Sub H Hs) {id:Nat} {es:List (PV×PV)} (h:H[id]? =some (.map es)):Hs[id]? =some (.map es):=by
 obtain⟨I,J,j⟩:=C id _ h
 cases I<;>simp[simM]at j
 subst j
 exact J
theorem Zp4 (C:Sub H Hs) {x:PV} {es:List (List PV)} (he:elems H x=some es):elems Hs x=some es:=by
 cases x<;>simp only[elems]at he⊢ <;>try exact he
 rename_i id i n room
 split at he
 ·rename_i hm
  obtain⟨I,j⟩:=C.row hm
  rw[j];exact he
 ·cases he
theorem ZnV (C:Sub H Hs) {t:TypeId} {x p:PV} (he:ZbF P H t x=some p):ZbF P Hs t x=some p:=by
 cases x<;>simp only[ZbF]at he⊢ <;>try exact he
 split at he
 ·rename_i hm
  obtain⟨I,j⟩:=C.row hm
  rw[j];exact he
 ·cases he
theorem ZnK (j:Sub H Hs) {s d:TypeId} {x p:PV} (he:ZcY P H s d x=some p):ZcY P Hs s d x=some p:=by
 unfold ZcY at he⊢
 split at he
 ·exact he
 ·exact he
 ·exact he
 ·exact he
 ·split at he
  ·obtain⟨es,C,I⟩:=Zak he
   simp only[Zp4 j C,Xab]
   exact I
  ·cases he
 ·cases he
theorem ZlW (I:Sub H Hs) {t:TypeId} {x p:PV} {lo hi C:Option PV} (he:ZbO P H t x lo hi C=some p):ZbO P Hs t x lo hi C=some p:=by
 unfold ZbO at he⊢
 split at he
 ·exact he
 ·exact he
 ·obtain⟨z,J,he⟩:=Zak he
  obtain⟨⟨l,k,x⟩,R,he⟩:=Zak he
  simp only[J,R,Xab]
  simp only[]at he
  split at he
  ·rename_i hm
   obtain⟨U,j⟩:=I.row hm
   rw[j];exact he
  ·cases he
 ·exact he
 ·cases he
theorem ZhU (I:Sub H Hs) {t:TypeId} {x C p:PV} (he:Zav P H t x C=some p):Zav P Hs t x C=some p:=by
 unfold Zav at he⊢
 split at he
 ·split at he
  ·exact he
  ·obtain⟨z,J,he⟩:=Zak he
   simp only[J,Xab]
   obtain⟨R,he⟩:=Zar he
   rw[if_pos R]
   split at he
   ·rename_i hm
    obtain⟨U,j⟩:=I.row hm
    rw[j];exact he
   ·cases he
  ·exact he
  ·exact he
  ·cases he
 ·cases he
theorem ZpR (j:Sub H Hs) {t:TypeId} {x p:PV} (he:Zd5 P H t x=some p):Zd5 P Hs t x=some p:=by
 unfold Zd5 at he⊢
 split at he<;>try exact he
 split at he
 ·rename_i hm
  rw[j.map hm];exact he
 ·cases he
theorem ZqR (j:Sub H Hs) {x:PV} {es:List (PV×PV)} (he:Zmg H x=some es):Zmg Hs x=some es:=by
 cases x<;>simp only[Zmg]at he⊢ <;>try exact he
 split at he
 ·rename_i hm
  rw[j.map hm];exact he
 ·cases he
theorem ZkG (C:Sub H Hs) {t:TypeId} {x k p:PV} {ok:Bool} (he:Zen P H t x k ok=some p):Zen P Hs t x k ok=some p:=by
 unfold Zen at he⊢
 obtain⟨e,I,he⟩:=Zak he
 obtain⟨key,J,he⟩:=Zak he
 cases j:ZfH key e.1 with
 |false=>rw[j]at he;cases he
 |true=>
 rw[j,cond_true]at he
 obtain⟨es,R,he⟩:=Zak he
 simp only[I,J,j,cond_true,ZqR C R,Xab]
 exact he
theorem ZkD (j:Sub H Hs) {b:Builtin} {ts:Array TypeId} {vs:List PV} {p:PV} (he:Zbp P H b ts vs=some p):Zbp P Hs b ts vs=some p:=by
 unfold Zbp at he⊢
 split at he
 ·obtain⟨t,C,he⟩:=Zak he
  simp only[C,Xab]
  exact ZpR j he
 ·exact he
 ·exact he
 ·cases he
theorem Zge {α β:Type} {f g:α→Option β}: ∀ {l:List α} {r:List β},(∀x∈l,∀b,f x=some b→g x=some b)→ZaV f l=some r→ZaV g l=some r
 | [],r,_,h=>h
 |x::l,r,j,h=>by
  obtain⟨b,s,C,I,rfl⟩:=ZaD h
  rw[ZgB,j x Xah b C]
  simp only[Xab]
  rw[Zge (fun y J=>j y (Xai _ J)) I]
  rfl
theorem ZcG {α β:Type} {f g:α→List β}: ∀ {l:List α},(∀x∈l,f x=g x)→l.flatMap f=l.flatMap g
 | [],_=>rfl
 |x::l,h=>by rw[Xbu,Xbu,h x Xah,ZcG fun y j=>h y (Xai _ j)]
theorem ZdG {α β:Type} {f:α→Option β}: ∀ {l:List α} {r:List β},ZaV f l=some r→ ∀x∈l,∃b,f x=some b
 | [],r,_,x,hx=>by simp at hx
 |y::l,r,h,x,hx=>by
  obtain⟨b,s,j,C,rfl⟩:=ZaD h
  rcases Xav.1 hx with rfl|hx
  ·exact⟨b,j⟩
  ·exact ZdG C x hx
theorem Zle (hs:Sub H Hs): ∀ (n:Nat) (v q:PV),exp n H v=some q→exp n Hs v=some q∧rch n Hs v=rch n H v
 |0,v,q,h=>by simp[exp]at h
 |n+1,v,q,h=>by
  have ih:=Zle hs n
  have j: ∀ (l r:List PV),ZaV (exp n H) l=some r→ZaV (exp n Hs) l=some r∧l.flatMap (rch n Hs)=l.flatMap (rch n H):=by
   intro l r hl
   refine⟨Zge (fun x _ b J=>(ih x b J).1) hl,ZcG fun x hx=> ?_⟩
   obtain⟨b,J⟩:=ZdG hl x hx
   exact(ih x b J).2
  cases v with
  |ref id i l room=>
   simp only[exp,rch]at h⊢
   split at h
   ·rename_i es z m hm
    obtain⟨m',I⟩:=hs.row hm
    obtain⟨hle,h⟩:=Zar h
    cases he:ZaV (ZaV (exp n H)) ((es.drop i).take l)with
    |none=>simp[he]at h
    |some qs=>
     have R:ZaV (ZaV (exp n Hs)) ((es.drop i).take l)=some qs:=Zge (fun x _ b J=>(j x b J).1) he
     refine⟨by simp only[I,if_pos hle,R];rw[he]at h;exact h, ?_⟩
     simp only[I,hm]
     congr 1
     exact ZcG fun x hx=>by
      obtain⟨b,J⟩:=ZdG he x hx
      exact(j x b J).2
   ·cases h
  |ptr id i r=>
   simp only[exp,rch]at h⊢
   split at h
   ·rename_i es z m hm
    obtain⟨m',I⟩:=hs.row hm
    obtain⟨c,hc,h⟩:=Zak h
    cases he:ZaV (exp n H) c with
    |none=>simp[he]at h
    |some qs=>
     obtain⟨R,C⟩:=j c qs he
     refine⟨by simp only[I,hc,Xab,R];rw[he]at h;exact h, ?_⟩
     simp only[I,hm,hc,Xby,C]
   ·cases h
  |func f a c=>
   simp only[exp,rch]at h⊢
   obtain⟨a',R,h⟩:=Zak h
   cases C:ZaV (exp n H) c with
   |none=>simp[C]at h
   |some U=>
    obtain⟨h3,h4⟩:=j a a' R
    obtain⟨h5,h6⟩:=j c U C
    exact⟨by rw[h3,h5];rw[C]at h;exact h,by rw[h4,h6]⟩
  |agg cs=>
   simp only[exp,rch]at h⊢
   cases C:ZaV (exp n H) cs with
   |none=>simp[C]at h
   |some U=>
    obtain⟨h5,h6⟩:=j cs U C
    exact⟨by rw[h5];rw[C]at h;exact h,h6⟩
  |tup cs=>
   simp only[exp,rch]at h⊢
   cases C:ZaV (exp n H) cs with
   |none=>simp[C]at h
   |some U=>
    obtain⟨h5,h6⟩:=j cs U C
    exact⟨by rw[h5];rw[C]at h;exact h,h6⟩
  |map id=>simp[exp]at h
  |_=>exact⟨by simpa only[exp]using h,rfl⟩
theorem ZjO (I:Sub H Hs) {f:FuncId} {args:List PV} {base:Nat} {r:PV×List Mem×List Nat} (j:Zgt h E f args H base=some r):Zgt h E f args Hs base=some r:=by
 unfold Zgt at j⊢
 obtain⟨R,J,j⟩:=Zak j
 have U:ZaV (exp ZaL Hs) args=some R:=Zge (fun x _ b C=>(Zle I _ x b C).1) J
 have h3:args.flatMap (rch ZaL Hs)=args.flatMap (rch ZaL H):=ZcG fun x hx=>by
  obtain⟨b,C⟩:=ZdG J x hx
  exact(Zle I _ x b C).2
 rw[U,Xab]
 unfold ZwC Zoe at j⊢
 rw[h3]
 exact j
theorem Zfq {x y:Option PV} (j: ∀p,x=some p→y=some p) {r:PV×List Mem×List Nat} (C:val x=some r):val y=some r:=by
 cases x with
 |none=>simp[val]at C
 |some p=>rw[j p rfl];exact C
theorem ZoI (J:Sub H Hs) {base:Nat} {ρ:Operand→Option PV} {o:Oper} {r:PV×List Mem×List Nat} (j:opR P h E H base ρ o=some r):opR P h E Hs base ρ o=some r:=by
 unfold opR at j⊢
 cases U:o.op<;>simp only[U]at j⊢ <;>try exact j
 ·exact Zfq (fun p hp=>by
   unfold Zjv at hp⊢
   obtain⟨q,C,I⟩:=Zak hp
   simp only[C,Xab];exact ZnV J I) j
 ·exact Zfq (fun p hp=>by
   unfold Zst at hp⊢
   obtain⟨q,C,I⟩:=Zak hp
   simp only[C,Xab];exact ZnK J I) j
 ·exact Zfq (fun p hp=>by
   unfold Zcd at hp⊢
   obtain⟨q,C,hp⟩:=Zak hp
   obtain⟨l,I,hp⟩:=Zak hp
   obtain⟨k,R,hp⟩:=Zak hp
   obtain⟨m,h4,hp⟩:=Zak hp
   simp only[C,I,R,h4,Xab];exact ZlW J hp) j
 ·exact Zfq (fun p hp=>by
   unfold Zbh at hp⊢
   obtain⟨q,r,C,I,R⟩:=ZnR hp
   simp only[C,I,Xab];exact ZhU J R) j
 ·exact Zfq (fun p hp=>by
   unfold Zia at hp⊢
   obtain⟨q,r,C,I,R⟩:=ZnR hp
   simp only[C,I,Xab];exact ZkG J R) j
 ·rename_i c
  unfold Zhz at j⊢
  cases hc:c.callee with
  |builtin b=>
   simp only[hc]at j⊢
   exact Zfq (fun p hp=>by
    unfold Zb1 at hp⊢
    obtain⟨q,C,I⟩:=Zak hp
    simp only[C,Xab];exact ZkD J I) j
  |value x=>
   cases x<;>simp only[hc]at j⊢ <;>try exact j
   unfold ZeQ at j⊢
   obtain⟨hn,j⟩:=Zi9 j
   rw[if_neg hn]
   obtain⟨vs,C,I⟩:=Zak j
   simp only[C,Xab]
   exact ZjO J I
  |invoke _ _=>simp only[hc]at j;cases j
theorem Zc8: ∀ (ids:List Nat) (H:List Mem),∀ (j:Nat) (m:Mem),H[j]? =some m→ ∃C,(freeze ids H)[j]? =some C∧simM m C
 | [],H,j,m,h=>⟨m,h,simM.refl m⟩
 |i::ids,H,j,m,h=>by
  show ∃C,(freeze ids (freeze1 H i))[j]? =some C∧simM m C
  rcases ZaQ H i j with I|⟨rfl,es,z,b,I,R⟩
  ·exact Zc8 ids (freeze1 H i) j m (by rw[I];exact h)
  ·obtain⟨C,U,J⟩:=Zc8 ids (freeze1 H i) i _ R
   rw[h]at I;cases I
   refine⟨C,U, ?_⟩
   cases C<;>simp[simM]at J⊢
   exact J
theorem Zfk: ∀ (ids:List Nat) (H:List Mem) (j:Nat) (es:List (List PV)) (z:Nat) (m:Bool),(freeze ids H)[j]? =some (.row es z m)→ ∃C,H[j]? =some (.row es z C)
 | [],H,j,es,z,m,h=>⟨m,h⟩
 |i::ids,H,j,es,z,m,h=>by
  obtain⟨C,I⟩:=Zfk ids (freeze1 H i) j es z m h
  rcases ZaQ H i j with J|⟨rfl,es',z',b,J,R⟩
  ·exact⟨C,by rw[←J];exact I⟩
  ·rw[R]at I;cases I;exact⟨b,J⟩
theorem Sub.freeze (ids:List Nat) (H ms:List Mem):Sub H (freeze ids H++ms):=by
 intro j m h
 obtain⟨I,C,J⟩:=Zc8 ids H j m h
 exact⟨I,by rw[Xar (Xae.1 C).1];exact C,J⟩
theorem ZoQ (H:List Mem) (x:Option PV):ZbY H x=ZiN H (val x):=by cases x<;>simp[ZbY,ZiN,val,freeze]
theorem ZpQ {ρ:Operand→Option PV} {o:Oper} (hw:isW h o=false):opA P h E H ρ o=ZiN H (opR P h E H H.length ρ o):=by
 unfold isW at hw
 unfold opA opR
 cases j:o.op<;>simp only[j,ZoQ]at hw⊢ <;>try (first|rfl|(simp at hw;done))
 rename_i c
 unfold ZzE at hw
 unfold Zg3 Zhz
 cases C:c.callee with
 |builtin b=>cases b<;>simp only[C,ZoQ]at hw⊢ <;>first|rfl|(simp at hw;done)
 |value x=>
  cases x<;>simp only[C]at hw⊢ <;>try (simp at hw;done)
  unfold ZeQ
  rw[if_neg (by simp[hw]),if_neg (by simp[hw])]
 |invoke _ _=>simp[C]at hw
theorem ZtC {ρ:Operand→Option PV} {o:Oper} (hw:isW h o=true):opA P h E H ρ o=opW P h E H ρ o:=by
 unfold isW at hw
 unfold opA opW
 cases j:o.op<;>simp only[j]at hw⊢ <;>try (first|rfl|(simp at hw;done))
 rename_i c
 unfold ZzE at hw
 unfold Zg3 Zqg
 cases C:c.callee with
 |builtin b=>cases b<;>simp only[C]at hw⊢ <;>first|rfl|(simp at hw;done)
 |value x=>
  cases x<;>simp only[C]at hw⊢
  rw[if_pos (by simpa using hw)]
 |invoke _ _=>rfl
end
variable [Laid]
open Go.RowKit
section
variable {P : Program} {h : Hints} {E : Ev} {w : World} {φ : Phi} {S : Nat → Prop} {B : Nat} {H H' : List Mem} {tm : List (Nat × PV)} {N : Nat} {o : Oper} {a : Act} {K : Act → World → Prop} {Q : Exit → Act → World → Prop}
theorem ZmZ {H':List Mem} (hI:Inv φ H w S B) (hlen:H'.length=H.length) (ms:List Mem):Zxj (H'++ms) φ H.length ms:=by
 intro j m hm
 refine⟨m, ?_, .inl rfl, ?_⟩
 ·rw[XaE (by omega),hlen]
  rw[show H.length+j-H.length=j from by omega]
  exact hm
 ·cases C:φ (H.length+j)with
  |none=>rfl
  |some l=>have:=(hI.live _ l C).2.2;omega
theorem Zgw (J:Good P h E) (hI:Inv φ H w S B) {f:FuncId} {args:List PV} {vals:List Value} {v:PV} (C:Zcu h E f args H=some (v,H')) (hv:VL φ w S args vals):
 Zwv P f∧Calls P f vals.toArray w (ZxQ H' H.length B φ S w v):=by
 unfold Zcu at C
 by_cases ho:h.opn f=true
 ·rw[if_pos ho]at C
  exact⟨J.fnOk f (.inl ⟨_,_,_,C⟩),J.rn f args H v H' C φ S w B vals hI hv⟩
 ·rw[if_neg ho]at C
  cases R:Zgt h E f args H H.length with
  |none=>simp[R]at C
  |some x=>
   obtain⟨q,ms,fz⟩:=x
   simp only[R,Xak,Xaf,Prod.mk.injEq]at C
   obtain⟨rfl,rfl⟩:=C
   obtain⟨S1,h1,h2,h3⟩:=hI.freeze fz
   have hlen:=ZaS fz H
   have U:Inv φ (freeze fz H++ms) w S1 B:=h1.reheap (fun j l hj=> .inl (by rw[Xar (h1.live j l hj).2.2])) (by simp)
   have aa:=ZjO (Sub.freeze fz H ms) R
   have ab:VL φ w S1 args vals:=hv.evo h2 hI (Xan _)
   have I:=ZiV J.rn J.prim U aa ab (ZmZ hI hlen ms) (fun id hid l es z m hl hm=>by
    have ae:=(hI.live id l hl).2.2
    rw[Xar (by omega)]at hm
    obtain⟨m',ad⟩:=Zfk fz H id es z m hm
    exact h3 id hid l es z m' hl ad)
   refine⟨ZpD J R,I.mono ?_⟩
   rintro e w' ⟨u,φ',S2,rfl,h4,h5,h6,_⟩
   exact⟨u,φ',S2,rfl,h4,h2.trans (h5.mono (by simp[hlen])),h6⟩
theorem Zd7:VRel φ w S (.tup []) undef:=by simp only[VRel,VL];exact⟨#[],rfl,rfl⟩
theorem Zgg {ts:Array TypeId} {ty:TypeId} {s x v:PV} {sv J:Value} {H':List Mem} (hI:Inv φ H w S B) (j:ZdO P h H ts s x=some (v,H')) (hs:VRel φ w S s sv) (hx:VRel φ w S x J):
 ∃u w' φ' S',(Builtin.append_ ts ty #[sv,J]).run P w= .ok u w'∧Inv φ' H' w' S' B∧Evo H.length B φ S w φ' S' w'∧VRel φ' w' S' v u∧ ∀i,i<H.length→φ' i=φ i:=by
 unfold ZdO at j
 cases hf:frzT h ts with
 |false=>rw[hf,cond_false]at j;exact ZgE hI j hs hx
 |true=>
  rw[hf,cond_true]at j
  obtain⟨x',h1,h2⟩:=Zak j
  obtain⟨S1,h3,R,h5⟩:=hI.freeze (rch ZaL H x)
  have h6:=(Ze4 hI (rch ZaL H x) ZaL x x' J h1 hx (fun _ hid=>hid)).1
  have h7:IRel w S1 x' J:=IRel.mono (fun b U=>⟨by
   rcases U with U|⟨id,hid,l,hl,rfl⟩
   ·exact(R.st b U).1
   ·obtain⟨es,z,m,C⟩:=Zkr _ _ _ hid
    exact h5 id hid l es z m hl C,rfl⟩) _ _ h6
  obtain⟨u,w',φ',S',h8,h9,I,aa,ab⟩:=ZgE (P:=P) (ty:=ty) h3 h2 (VRel.mono (fun _ _ hl=>hl) R.st _ _ hs) (IRel.toV _ _ h7)
  rw[ZaS]at I
  exact⟨u,w',φ',S',h8,h9,R.trans I,aa,fun i hi=>ab i (by rw[ZaS];exact hi)⟩
theorem ZyX (hG:Good P h E) {v:PV} (hI:Inv φ H w S B) (ht:TRel φ w S N tm a) (j:opW P h E H (ev tm) o=some (v,H'))
 (hK: ∀u w' φ' S',Inv φ' H' w' S' B→Evo H.length B φ S w φ' S' w'→VRel φ' w' S' v u→K (a.put o.dst u) w'):o.wp P a w K Q:=by
 have ab: ∀c:Call,c.args.map a.eval=(c.args.toList.map a.eval).toArray:=fun c=>by rw[←Array.toList_map,Array.toArray_toList]
 unfold opW at j
 cases ho:o.op with
 |store t x y=>
  simp only[ho,ZeE]at j
  obtain⟨p,C,g1⟩:=Zak j
  obtain⟨q,h2,g2⟩:=Zak g1
  obtain⟨J,hn⟩:=Zfl h2
  cases hs:ZcL P H t p q with
  |none=>simp[hs]at g2
  |some H2=>
   simp only[hs,Xak,Xaf,Prod.mk.injEq]at g2
   obtain⟨rfl,rfl⟩:=g2
   obtain⟨w',R,U,h6⟩:=ZhB (P:=P) hI hs (ZaA ht C) (ZaA ht J) hn
   exact Zfp (by simp[execOp,ho,R]) (hK _ w' φ S U h6 Zd7)
 |mapUpdate t m k x=>
  simp only[ho]at j
  have I:=j
  unfold ZpS at I
  obtain⟨e,he,g1⟩:=Zak I
  obtain⟨mv,C,g2⟩:=Zak g1
  obtain⟨kv,h2,g3⟩:=Zak g2
  obtain⟨xv,J,g4⟩:=Zak g3
  rw[C,h2,J]at j
  obtain⟨w',R,rfl,U,h6⟩:=Zj0 hI j (ZaA ht C) (ZaA ht h2) (ZaA ht J)
  exact Zfp (by simp[execOp,ho,R]) (hK _ w' φ S U h6 Zd7)
 |insert t m k x=>
  simp only[ho]at j
  have I:=j
  unfold ZpS at I
  obtain⟨e,he,g1⟩:=Zak I
  obtain⟨mv,C,g2⟩:=Zak g1
  obtain⟨kv,h2,g3⟩:=Zak g2
  obtain⟨xv,J,g4⟩:=Zak g3
  rw[C,h2,J]at j
  obtain⟨w',R,rfl,U,h6⟩:=Zj0 hI j (ZaA ht C) (ZaA ht h2) (ZaA ht J)
  exact Zfp (by simp[execOp,ho,R]) (hK _ w' φ S U h6 Zd7)
 |call c=>
  simp only[ho,Zqg]at j
  cases hc:c.callee with
  |builtin b=>
   simp only[hc,Zf2]at j
   have two: ∀ {vs:List PV} {s x:PV},ZaV (ev tm) c.args.toList=some vs→vs=[s,x]→ ∃sv xv,c.args.toList.map a.eval=[sv,xv]∧VRel φ w S s sv∧VRel φ w S x xv:=by
    intro vs s x C h2
    subst h2
    have hv:=Zb4 ht C
    simp only[VL]at hv
    obtain⟨sv,r,e1,J,xv,r2,rfl,R,rfl⟩:=hv
    exact⟨sv,xv,e1,J,R⟩
   cases b<;>simp only[]at j<;>try (cases j;done)
   ·
    unfold ZdU at j
    obtain⟨vs,C,g1⟩:=Zak j
    split at g1
    ·rename_i s x
     obtain⟨sv,xv,e1,J,R⟩:=two C rfl
     obtain⟨u,w',φ',S',U,h6,h7,h8,_⟩:=Zgg (P:=P) (h:=h) (ty:=o.type) hI g1 J R
     refine ZcK ?_ (hK u w' φ' S' h6 h7 h8)
     simp only[execOp,ho,resolve,hc,Sem.run_bind,Sem.run_pure,Result.andThen_ok,invoke,builtin,ab,e1]
     rw[show([sv,xv]:List Value).toArray= #[sv,xv]from rfl,U]
     rfl
    ·cases g1
   ·
    unfold Zjn at j
    obtain⟨vs,C,g1⟩:=Zak j
    split at g1
    ·rename_i s
     have hv:=Zb4 ht C
     simp only[VL]at hv
     obtain⟨sv,r,e1,J,rfl⟩:=hv
     obtain⟨u,w',U,h6,h7,h8⟩:=ZlP (P:=P) (ty:=o.type) hI g1 J
     refine ZcK ?_ (hK u w' φ S h6 h7 h8)
     simp only[execOp,ho,resolve,hc,Sem.run_bind,Sem.run_pure,Result.andThen_ok,invoke,builtin,ab,e1]
     rw[show([sv]:List Value).toArray= #[sv]from rfl,U]
     rfl
    ·cases g1
   ·
    unfold ZnW at j
    obtain⟨vs,C,g1⟩:=Zak j
    split at g1
    ·rename_i s x
     obtain⟨sv,xv,e1,J,R⟩:=two C rfl
     obtain⟨u,w',U,h6,h7,h8⟩:=Zm9 (P:=P) (ty:=o.type) hI g1 J R
     refine ZcK ?_ (hK u w' φ S h6 h7 h8)
     simp only[execOp,ho,resolve,hc,Sem.run_bind,Sem.run_pure,Result.andThen_ok,invoke,builtin,ab,e1]
     rw[show([sv,xv]:List Value).toArray= #[sv,xv]from rfl,U]
     rfl
    ·cases g1
  |value x=>
   have dyn:ZqZ h E H (ev tm) x c=some (v,H')→o.wp P a w K Q:=by
    intro hd
    unfold ZqZ at hd
    obtain⟨fv,C,g1⟩:=Zak hd
    split at g1
    ·rename_i f first ah
     obtain⟨vs,h2,g2⟩:=Zak g1
     have hf:=ZaA ht C
     simp only[VRel]at hf
     obtain⟨fs,cs,ae,af,ag⟩:=hf
     obtain⟨ad,aa⟩:=Zgw hG hI g2 (VL.append (VL.append af (Zb4 ht h2)) ag)
     refine ZfJ (f:=f) (args:=(fs.toList++c.args.toList.map a.eval++cs.toList).toArray) ?_ (aa.mono ?_)
     ·simp only[execOp,ho,resolve,hc,ae,Deferred.ofValue,Sem.run_bind,Sem.run_pure,Result.andThen_ok,invoke,ZeY ad]
      congr 2
      apply Array.ext'
      simp
     ·rintro e w' ⟨u,φ',S',rfl,R,U,h6⟩
      exact⟨u,rfl,hK u w' φ' S' R U h6⟩
    ·cases g1
   cases x with
   |func f=>
    simp only[hc]at j
    unfold Zm0 at j
    obtain⟨vs,h2,g2⟩:=Zak j
    obtain⟨ad,aa⟩:=Zgw hG hI g2 (Zb4 ht h2)
    refine ZfJ (f:=f) (args:=(c.args.toList.map a.eval).toArray) ?_ (aa.mono ?_)
    ·simp only[execOp,ho,resolve,hc,Act.eval,Deferred.ofValue,Sem.run_bind,Sem.run_pure,Result.andThen_ok,invoke,ZeY ad]
     congr 2
     apply Array.ext'
     simp
    ·rintro e w' ⟨u,φ',S',rfl,R,U,h6⟩
     exact⟨u,rfl,hK u w' φ' S' R U h6⟩
   |_=>simp only[hc]at j;exact dyn j
  |invoke _ _=>simp[hc]at j
 |_=>simp[ho]at j
def ZAE (φ:Phi) (H:List Mem) (φ':Phi) (H':List Mem):Prop:= ∀id,id<H.length→φ id=none→φ' id=none∧ ∀m,H[id]? =some m→H'[id]? =some m∨ ∃es z b,m= .row es z b∧H'[id]? =some (.row es z false)
theorem ZqC {z by_:Nat} {s v:PV} {new:List (List PV)} {sv:Value} (C:ZbE H z by_ s new=some (v,H')) (R:VRel φ w S s sv) {k:Nat} (hk:φ k=none) {m:Mem} (hm:H[k]? =some m):H'[k]? =some m:=by
 have I:=(Xae.1 hm).1
 unfold ZbE at C
 split at C
 ·split at C
  ·cases C;exact hm
  ·obtain⟨_,C⟩:=Zar C
   cases C
   rw[Xar I];exact hm
 ·rename_i id j n room
  simp only[VRel]at R
  obtain⟨l,_,_,U,_⟩:=R
  have J:id≠k:=by rintro rfl;rw[hk]at U;cases U
  split at C
  ·obtain⟨_,C⟩:=Zar C
   split at C
   ·cases C;exact hm
   ·split at C
    ·obtain⟨_,C⟩:=Zar C
     cases C
     rw[XaD J];exact hm
    ·obtain⟨_,C⟩:=Zar C
     cases C
     rw[Xar (by simpa using I),XaD J];exact hm
  ·cases C
 ·cases C
theorem Zny (ids:List Nat) (H:List Mem) {k:Nat} {m:Mem} (hm:H[k]? =some m):(freeze ids H)[k]? =some m∨ ∃es z b,m= .row es z b∧(freeze ids H)[k]? =some (.row es z false):=by
 induction ids generalizing H m with
 |nil=>exact .inl hm
 |cons i ids C=>
  show(freeze ids (freeze1 H i))[k]? =some m∨_
  rcases ZaQ H i k with h|⟨rfl,es,z,b,I,J⟩
  ·exact C (freeze1 H i) (by rw[h];exact hm)
  ·rw[hm]at I;cases I
   right
   rcases C (freeze1 H i) J with j|⟨es',z',U,R,j⟩
   ·exact⟨es,z,b,rfl,j⟩
   ·cases R;exact⟨es,z,b,rfl,j⟩
theorem ZqU {ts:Array TypeId} {s x v:PV} {sv:Value} (j:ZdO P h H ts s x=some (v,H')) (hs:VRel φ w S s sv) {k:Nat} (hk:φ k=none) {m:Mem} (hm:H[k]? =some m):H'[k]? =some m∨ ∃es z b,m= .row es z b∧H'[k]? =some (.row es z false):=by
 have key: ∀ {H1:List Mem} {J:PV},Zcw P H1 ts s J=some (v,H')→ ∀m1,H1[k]? =some m1→H'[k]? =some m1:=by
  intro H1 J j m1 C
  unfold Zcw at j
  obtain⟨t,_,j⟩:=Zak j
  obtain⟨e,_,j⟩:=Zak j
  obtain⟨z,_,j⟩:=Zak j
  obtain⟨by_,_,j⟩:=Zak j
  obtain⟨zero,_,j⟩:=Zak j
  obtain⟨new,_,j⟩:=Zak j
  obtain⟨_,j⟩:=Zar j
  exact ZqC j hs hk C
 unfold ZdO at j
 cases R:frzT h ts with
 |false=>rw[R,cond_false]at j;exact .inl (key j m hm)
 |true=>
  rw[R,cond_true]at j
  obtain⟨x',_,U⟩:=Zak j
  rcases Zny (rch ZaL H x) H hm with I|⟨es,z,b,rfl,I⟩
  ·exact .inl (key U m I)
  ·exact .inr ⟨es,z,b,rfl,key U _ I⟩
theorem ZwD (hG:Good P h E) {v:PV} (C:ZfM o=true) (hI:Inv φ H w S B) (ht:TRel φ w S N tm a) (j:opW P h E H (ev tm) o=some (v,H'))
 (hK: ∀u w' φ' S',Inv φ' H' w' S' B→Evo H.length B φ S w φ' S' w'→VRel φ' w' S' v u→ZAE φ H φ' H'→K (a.put o.dst u) w'):o.wp P a w K Q:=by
 have U: ∀c:Call,c.args.map a.eval=(c.args.toList.map a.eval).toArray:=fun c=>by rw[←Array.toList_map,Array.toArray_toList]
 unfold ZfM at C
 unfold opW at j
 cases R:o.op with
 |store t x y=>
  simp only[R,ZeE]at j
  obtain⟨p,h1,g1⟩:=Zak j
  obtain⟨q,h2,g2⟩:=Zak g1
  obtain⟨h3,hn⟩:=Zfl h2
  cases I:ZcL P H t p q with
  |none=>simp[I]at g2
  |some H2=>
   simp only[I,Xak,Xaf,Prod.mk.injEq]at g2
   obtain⟨rfl,rfl⟩:=g2
   have hp:=ZaA ht h1
   obtain⟨w',h4,h5,h6⟩:=ZhB (P:=P) hI I hp (ZaA ht h3) hn
   refine Zfp (by simp[execOp,R,h4]) (hK _ w' φ S h5 h6 Zd7 fun id hid J=>⟨J,fun m hm=> .inl ?_⟩)
   unfold ZcL at I
   split at I
   ·rename_i aa i r
    simp only[VRel]at hp
    have ab:aa≠id:=by
     rintro rfl
     obtain⟨l,hl,_⟩:=hp
     rw[J]at hl;cases hl
    split at I
    ·obtain⟨c,_,I⟩:=Zak I
     obtain⟨n,_,I⟩:=Zak I
     obtain⟨_,I⟩:=Zar I
     cases I
     rw[XaD ab];exact hm
    ·cases I
   ·cases I
 |call c=>
  simp only[R]at C
  simp only[R,Zqg]at j
  cases hc:c.callee with
  |builtin b=>
   simp only[hc]at C
   simp only[hc,Zf2]at j
   cases b<;>simp only[]at j C<;>try (first|(cases j;done)|(cases C;done))
   unfold ZdU at j
   obtain⟨vs,h1,g1⟩:=Zak j
   split at g1
   ·rename_i s x
    have hv:=Zb4 ht h1
    simp only[VL]at hv
    obtain⟨sv,r,e1,h3,xv,r2,rfl,h4,rfl⟩:=hv
    obtain⟨u,w',φ',S',h5,h6,h7,h8,h9⟩:=Zgg (P:=P) (h:=h) (ty:=o.type) hI g1 h3 h4
    refine ZcK ?_ (hK u w' φ' S' h6 h7 h8 fun id hid J=>⟨by rw[h9 id hid];exact J,fun m hm=>ZqU g1 h3 J hm⟩)
    simp only[execOp,R,resolve,hc,Sem.run_bind,Sem.run_pure,Result.andThen_ok,invoke,builtin,U,e1]
    rw[show([sv,xv]:List Value).toArray= #[sv,xv]from rfl,h5]
    rfl
   ·cases g1
  |_=>simp[hc]at C
 |_=>simp[R]at C
theorem Zv2 (hG:Good P h E) {v:PV} (hI:Inv φ H w S B) (I:TRel φ w S N tm a) (C:opA P h E H (ev tm) o=some (v,H'))
 (hK: ∀u w' φ' S',Inv φ' H' w' S' B→Evo H.length B φ S w φ' S' w'→VRel φ' w' S' v u→K (a.put o.dst u) w'):o.wp P a w K Q:=by
 cases hw:isW h o with
 |true=>rw[ZtC hw]at C;exact ZyX hG hI I C hK
 |false=>
  rw[ZpQ hw]at C
  unfold ZiN at C
  cases J:opR P h E H H.length (ev tm) o with
  |none=>simp[J]at C
  |some x=>
   obtain⟨q,ms,fz⟩:=x
   simp only[J,Xak,Xaf,Prod.mk.injEq]at C
   obtain⟨rfl,rfl⟩:=C
   obtain⟨S1,h1,h2,h3⟩:=hI.freeze fz
   have hlen:=ZaS fz H
   have R:Inv φ (freeze fz H++ms) w S1 B:=h1.reheap (fun j l hj=> .inl (by rw[Xar (h1.live j l hj).2.2])) (by simp)
   have U:TRel φ w S1 N tm a:=⟨I.1,I.2.1,fun i p hp=>⟨(I.2.2 i p hp).1,(I.2.2 i p hp).2.evo h2 hI (Xan _)⟩⟩
   refine Zsu hG R U (ZoI (Sub.freeze fz H ms) J) ?_ ?_ ?_
   ·exact ZmZ hI hlen ms
   ·intro id hid l es z m hl hm
    have ab:=(hI.live id l hl).2.2
    rw[Xar (by omega)]at hm
    obtain⟨m',aa⟩:=Zfk fz H id es z m hm
    exact h3 id hid l es z m' hl aa
   ·intro u w' φ' S' h4 h5 h6 _
    exact hK u w' φ' S' h4 (h2.trans (h5.mono (by simp[hlen]))) h6
theorem Zg5 {dst:Option Tmp} {v:PV} {u:Value} {tm':List (Nat×PV)} (hp:Zfg N dst v tm=some tm') (j:TRel φ w S N tm a) (I:VRel φ w S v u):TRel φ w S N tm' (a.put dst u):=by
 unfold Zfg at hp
 cases dst with
 |none=>simp at hp;subst hp;exact j
 |some d=>
  simp only[]at hp
  obtain⟨C,hp⟩:=Zar hp
  cases hp
  refine⟨by simp[Act.put,j.1],j.2.1, ?_⟩
  intro i p hi
  rw[Zb7]at hi
  by_cases hid:i=d
  ·subst hid
   rw[if_pos rfl]at hi
   cases hi
   refine⟨C, ?_⟩
   have:i<a.tmps.size:=by rw[j.1];exact C
   simpa[Act.put,this]using I
  ·rw[if_neg hid]at hi
   obtain⟨J,R⟩:=j.2.2 i p hi
   refine⟨J, ?_⟩
   have:(a.put (some d) u).tmps.getD i undef=a.tmps.getD i undef:=by
    simp[Act.put,Array.getElem?_setIfInBounds_ne (fun e=>hid e.symm)]
   rw[this];exact R
theorem TRel.evo {k:Nat} {φ':Phi} {S':Nat→Prop} {w':World} (j:TRel φ w S N tm a) (he:Evo k B φ S w φ' S' w') (hI:Inv φ H w S B) (C:H.length≤k):TRel φ' w' S' N tm a:=
 ⟨j.1,j.2.1,fun i p hp=>⟨(j.2.2 i p hp).1,(j.2.2 i p hp).2.evo he hI C⟩⟩
theorem ZoY {t:Nat} (j:TRel φ w S N tm a) {p:PV} (hp:get tm t=some p):a.tmps[t]? =some (a.tmps.getD t undef):=by
 have:=(j.2.2 t p hp).1
 rw[←j.1]at this
 simp[this]
theorem Zej {ops:Array Oper} {b:Bool} (hw:ZdM ops tm o=some b) (J:TRel φ w S N tm a):Region.wanted o (yielded ops a.tmps)=b:=by
 unfold ZdM at hw
 unfold Region.wanted
 cases U:o.guard with
 |none=>simp[U]at hw⊢;exact hw
 |some jw=>
  obtain⟨j,want⟩:=jw
  simp only[U]at hw⊢
  unfold yielded
  cases hd:(ops[j]?).bind (·.dst)with
  |none=>simp[hd]at hw
  |some d=>
   simp only[hd,Xab]at hw⊢
   split at hw
   ·rename_i c C
    cases hw
    have R:=ZoY J C
    have I:=(J.2.2 d _ C).2
    simp only[VRel]at I
    rw[R,I]
    cases c<;>cases want<;>rfl
   ·rename_i C
    cases hw
    have R:=ZoY J C
    have I:=(J.2.2 d _ C).2
    simp only[VRel,VL]at I
    obtain⟨arr,h3,h4⟩:=I
    have:arr= #[]:=by apply Array.ext';simpa using h4
    subst this
    rw[R,h3]
    rfl
   ·cases hw
theorem ZtG (hG:Good P h E) {ops:Array Oper} {i:Nat} (hi:ops[i]? =some o) {s J:St} (j:ZcV P h E N ops o s=some J) (hI:Inv φ s.hp w S B) (I:TRel φ w S N s.tm a)
 (hK: ∀R w' φ' S',Inv φ' J.hp w' S' B→Evo s.hp.length B φ S w φ' S' w'→TRel φ' w' S' N J.tm R→K R w'):wpOp P ops Q i K a w:=by
 unfold ZcV at j
 obtain⟨b,hb,j⟩:=Zak j
 have C:=Zej hb I
 unfold wpOp
 simp only[hi,C]
 cases b with
 |true=>
  simp only[cond_true]at j
  obtain⟨x,hx,j⟩:=Zak j
  obtain⟨v,H'⟩:=x
  cases hp:Zfg N o.dst v s.tm with
  |none=>simp[hp]at j
  |some tm'=>
   simp only[hp,Xak,Xaf]at j
   subst j
   simp only[if_true]
   left
   refine Zv2 hG hI I hx ?_
   intro u w' φ' S' h1 U h3
   exact hK _ w' φ' S' h1 U (Zg5 hp (I.evo U hI (Xan _)) h3)
 |false=>
  simp only[cond_false]at j
  cases hp:Zfg N o.dst (.tup []) s.tm with
  |none=>simp[hp]at j
  |some tm'=>
   simp only[hp,Xak,Xaf]at j
   subst j
   simp only[XaG,if_false]
   exact hK _ w φ S hI (Evo.refl _ _ _ _ _) (Zg5 hp I Zd7)
theorem ZqF {t:TypeId} {x y:PV} (j:ZcL P H t x y=some H'):H'.length=H.length:=by
 unfold ZcL at j
 split at j
 ·split at j
  ·obtain⟨c,_,j⟩:=Zak j
   obtain⟨n,_,j⟩:=Zak j
   obtain⟨_,j⟩:=Zar j
   cases j;simp
  ·cases j
 ·cases j
theorem Znj {z by_:Nat} {s v:PV} {new:List (List PV)} (j:ZbE H z by_ s new=some (v,H')):H.length≤H'.length:=by
 unfold ZbE at j
 split at j
 ·split at j
  ·cases j;exact Xan _
  ·obtain⟨_,j⟩:=Zar j
   cases j;simp
 ·split at j
  ·obtain⟨_,j⟩:=Zar j
   split at j
   ·cases j;exact Xan _
   ·split at j
    ·obtain⟨_,j⟩:=Zar j
     cases j;simp
    ·obtain⟨_,j⟩:=Zar j
     cases j;simp
  ·cases j
 ·cases j
theorem Zi3 {ts:Array TypeId} {s x v:PV} (j:Zcw P H ts s x=some (v,H')):H.length≤H'.length:=by
 unfold Zcw at j
 obtain⟨t,_,j⟩:=Zak j
 obtain⟨e,_,j⟩:=Zak j
 obtain⟨z,_,j⟩:=Zak j
 obtain⟨b,_,j⟩:=Zak j
 obtain⟨zero,_,j⟩:=Zak j
 obtain⟨new,_,j⟩:=Zak j
 obtain⟨_,j⟩:=Zar j
 exact Znj j
theorem Zoa {ts:Array TypeId} {s x v:PV} (j:ZdO P h H ts s x=some (v,H')):H.length≤H'.length:=by
 unfold ZdO at j
 cases C:frzT h ts with
 |false=>rw[C,cond_false]at j;exact Zi3 j
 |true=>
  rw[C,cond_true]at j
  obtain⟨J,_,I⟩:=Zak j
  have:=Zi3 I
  rwa[ZaS]at this
theorem Zq7 {ts:Array TypeId} {s x v:PV} (j:ZnZ P H ts s x=some (v,H')):H.length≤H'.length:=by
 unfold ZnZ at j
 obtain⟨t,_,j⟩:=Zak j
 obtain⟨e,_,j⟩:=Zak j
 obtain⟨z,_,j⟩:=Zak j
 obtain⟨src,_,j⟩:=Zak j
 obtain⟨_,j⟩:=Zar j
 split at j
 ·cases j;exact Xan _
 ·split at j
  ·obtain⟨_,j⟩:=Zar j
   cases j;simp
  ·cases j
 ·cases j
theorem ZqI {ts:Array TypeId} {s v:PV} (j:Zji P H ts s=some (v,H')):H.length≤H'.length:=by
 unfold Zji at j
 obtain⟨t,_,j⟩:=Zak j
 obtain⟨e,_,j⟩:=Zak j
 obtain⟨z,_,j⟩:=Zak j
 obtain⟨zero,_,j⟩:=Zak j
 obtain⟨_,j⟩:=Zar j
 split at j
 ·cases j;exact Xan _
 ·split at j
  ·obtain⟨_,j⟩:=Zar j
   cases j;simp
  ·cases j
 ·cases j
theorem Zot {t:TypeId} {m k x:Option PV} {v:PV} (j:ZpS P H t m k x=some (v,H')):H.length≤H'.length:=by
 unfold ZpS at j
 obtain⟨e,_,j⟩:=Zak j
 obtain⟨m,_,j⟩:=Zak j
 obtain⟨k,_,j⟩:=Zak j
 obtain⟨x,_,j⟩:=Zak j
 obtain⟨key,_,j⟩:=Zak j
 cases C:ZfH key e.1 with
 |false=>rw[C]at j;cases j
 |true=>
 rw[C,cond_true]at j
 split at j
 ·split at j
  ·rename_i es _
   cases hp:ZeD key x es with
   |none=>simp[hp]at j
   |some es'=>
    simp only[hp,Xak,Xaf,Prod.mk.injEq]at j
    obtain⟨_,rfl⟩:=j
    simp
  ·cases j
 ·cases j
theorem Zpa {r:Res} {v:PV} (j:ZiN H r=some (v,H')):H.length≤H'.length:=by
 unfold ZiN at j
 cases r with
 |none=>simp at j
 |some x=>
  obtain⟨q,ms,fz⟩:=x
  simp only[Xak,Xaf,Prod.mk.injEq]at j
  obtain⟨_,rfl⟩:=j
  simp[ZaS]
theorem ZiE (C:Good P h E) {f:FuncId} {args:List PV} {v:PV} (j:Zcu h E f args H=some (v,H')):H.length≤H'.length:=by
 unfold Zcu at j
 split at j
 ·exact C.len _ _ _ _ _ j
 ·exact Zpa j
theorem Zxl (I:Good P h E) {ρ:Operand→Option PV} {v:PV} (j:opW P h E H ρ o=some (v,H')):H.length≤H'.length:=by
 unfold opW at j
 split at j
 ·rename_i t _ _ _
  unfold ZeE at j
  obtain⟨p,_,j⟩:=Zak j
  obtain⟨q,_,j⟩:=Zak j
  cases C:ZcL P H t p q with
  |none=>simp[C]at j
  |some H2=>
   simp only[C,Xak,Xaf,Prod.mk.injEq]at j
   obtain⟨_,rfl⟩:=j
   rw[ZqF C];exact Xan _
 ·exact Zot j
 ·exact Zot j
 ·unfold Zqg at j
  split at j
  ·unfold Zf2 at j
   split at j
   ·unfold ZdU at j
    obtain⟨vs,_,j⟩:=Zak j
    split at j
    ·exact Zoa j
    ·cases j
   ·unfold ZnW at j
    obtain⟨vs,_,j⟩:=Zak j
    split at j
    ·exact Zq7 j
    ·cases j
   ·unfold Zjn at j
    obtain⟨vs,_,j⟩:=Zak j
    split at j
    ·exact ZqI j
    ·cases j
   ·cases j
  ·unfold Zm0 at j
   obtain⟨vs,_,j⟩:=Zak j
   exact ZiE I j
  ·unfold ZqZ at j
   obtain⟨J,_,j⟩:=Zak j
   split at j
   ·obtain⟨vs,_,j⟩:=Zak j
    exact ZiE I j
   ·cases j
  ·cases j
 ·cases j
theorem Zn3 (C:Good P h E) {ρ:Operand→Option PV} {v:PV} (j:opA P h E H ρ o=some (v,H')):H.length≤H'.length:=by
 cases hw:isW h o with
 |true=>rw[ZtC hw]at j;exact Zxl C j
 |false=>rw[ZpQ hw]at j;exact Zpa j
theorem Zqo (I:Good P h E) {ops:Array Oper} {s C:St} (j:ZcV P h E N ops o s=some C):s.hp.length≤C.hp.length:=by
 unfold ZcV at j
 obtain⟨b,_,j⟩:=Zak j
 cases b with
 |true=>
  simp only[cond_true]at j
  obtain⟨⟨v,H'⟩,J,j⟩:=Zak j
  cases hp:Zfg N o.dst v s.tm with
  |none=>simp[hp]at j
  |some tm'=>
   simp only[hp,Xak,Xaf]at j
   subst j
   exact Zn3 I J
 |false=>
  simp only[cond_false]at j
  cases hp:Zfg N o.dst (.tup []) s.tm with
  |none=>simp[hp]at j
  |some tm'=>
   simp only[hp,Xak,Xaf]at j
   subst j
   exact Xan _
theorem Zkm (U:Good P h E) {ops:Array Oper} (base:Nat): ∀ (l:List Oper) (i:Nat) (s j:St) (φ:Phi) (S:Nat→Prop) (a:Act) (w:World),ops.toList.drop i=l→Zeh P h E N ops l s=some j→Inv φ s.hp w S B→TRel φ w S N s.tm a→base≤s.hp.length→
 (∀R w' φ' S',Inv φ' j.hp w' S' B→Evo base B φ S w φ' S' w'→TRel φ' w' S' N j.tm R→base≤j.hp.length→Q .normal R w')→wpOps P ops Q ((List.range ops.size).drop i) a w
 | [],i,s,j,φ,S,a,w,I,C,hI,ht,hb,hQ=>by
  have aa:ops.size≤i:=by
   have:=List.drop_eq_nil_iff.1 I
   simpa using this
  rw[List.drop_eq_nil_of_le (by simpa using aa)]
  cases C
  exact hQ a w φ S hI (Evo.refl _ _ _ _ _) ht hb
 |o::l,i,s,j,φ,S,a,w,I,C,hI,ht,hb,hQ=>by
  have ab:i<ops.size:=by
   rcases XaO i ops.size with h|h
   ·exact h
   ·rw[List.drop_eq_nil_of_le (by simpa using h)]at I;cases I
  have hi:ops[i]? =some o:=by
   have:(ops.toList.drop i)[0]? =some o:=by rw[I];rfl
   rw[Xbv]at this
   simpa using this
  have ad:ops.toList.drop (i+1)=l:=by rw[←Xa9,I];rfl
  obtain⟨s1,h1,h2⟩:=Zak (x:=ZcV P h E N ops o s) (f:=fun s=>Zeh P h E N ops l s) C
  have hr:(List.range ops.size).drop i=i::(List.range ops.size).drop (i+1):=by
   rw[Xaz (by simpa using ab)]
   simp
  rw[hr,wpOps_cons]
  refine ZtG U hi h1 hI ht ?_
  intro R w' φ' S' h3 h4 h5
  have hlen:s.hp.length≤s1.hp.length:=Zqo U h1
  refine Zkm U base l (i+1) s1 j φ' S' R w' ad h2 h3 h5 (by omega) ?_
  intro ae af J ag h6 h7 h8 h9
  exact hQ ae af J ag h6 ((h4.mono hb).trans h7) h8 h9
end
variable [Laid]
open Go.RowKit
def ZpK (acc:List Nat) (o:Oper):Nat:=
 o.after.toList.foldr (fun e s=>bif Region.binds .any e then(s|||2^e.on)|||acc.getD e.on 0 else s) 0
def ZxY:List Oper→List Nat→List Nat
 | [],acc=>acc
 |o::r,acc=>ZxY r (acc++ [ZpK acc o])
def Zce (h:Hints) (ls:List Nat):List Oper→Nat→Nat
 | [],i=>i
 |o::r,i=>bif !has i ls&&isW h o then i else Zce h ls r (i+1)
def Zjp (h:Hints) (ls:List Nat):List Oper→Nat→List Nat
 | [],i=> [i]
 |o::r,i=>match Zjp h ls r (i+1)with
  |n::l=>(bif !has i ls&&isW h o then i else n)::n::l
  | []=> []
def Zwl (h:Hints) (ls:List Nat) (ops:Array Oper) (C ms:List Nat) (i j:Nat):Bool:=
 Nat.testBit (ms.getD j 0) i||match ops[i]?,ops[j]? with
 |some x,some y=>x.apart ops y&&(has i ls||(has j ls&& !isW h x)||Nat.blt j (C.getD i 0)||(isA x&&(ZfM y|| !isW h y)))
 |_,_=>true
def ZtX (ops:Array Oper) (j:Nat):Bool:=
 match ops[j]? with
 |some o=>o.after.toList.all fun e=> !Region.binds .any e||decide (e.on<j)
 |none=>true
def Zf4 (h:Hints) (ls:List Nat) (ops:Array Oper):Bool:=
 let ms:=ZxY ops.toList []
 let C:=Zjp h ls ops.toList 0
 (List.range ops.size).all fun j=>ZtX ops j&&(List.range j).all fun i=>Zwl h ls ops C ms i j
def Zj8 (ops:Array Oper) (D:Nat→Bool):Prop:= ∀j o,ops[j]? =some o→D j=true→ ∀e∈o.after,Region.binds .any e=true→D e.on=true
theorem ZnQ {acc:List Nat} {o:Oper} {i:Nat}:Nat.testBit (ZpK acc o) i=true→ ∃e∈o.after,Region.binds .any e=true∧(i=e.on∨Nat.testBit (acc.getD e.on 0) i=true):=by
 unfold ZpK
 have gen: ∀l:List Edge,Nat.testBit (l.foldr (fun e s=>bif Region.binds .any e then(s|||2^e.on)|||acc.getD e.on 0 else s) 0) i=true→ ∃e∈l,Region.binds .any e=true∧(i=e.on∨Nat.testBit (acc.getD e.on 0) i=true):=by
  intro l
  induction l with
  |nil=>intro h;simp at h
  |cons e l R=>
   intro h
   rw[List.foldr_cons]at h
   cases I:Region.binds .any e with
   |false=>
    rw[I]at h
    obtain⟨J,j,C⟩:=R h
    exact⟨J,Xai _ j,C⟩
   |true=>
    rw[I,cond_true,Nat.testBit_or,Nat.testBit_or]at h
    simp only[Bool.or_eq_true]at h
    rcases h with(h|h)|h
    ·obtain⟨J,j,C⟩:=R h
     exact⟨J,Xai _ j,C⟩
    ·rw[Nat.testBit_two_pow]at h
     exact⟨e,Xah,I, .inl (by simpa using(of_decide_eq_true h).symm)⟩
    ·exact⟨e,Xah,I, .inr h⟩
 intro h
 obtain⟨e,j,C⟩:=gen _ h
 exact⟨e,by simpa using j,C⟩
theorem ZhI {ops:Array Oper} {D:Nat→Bool} (R:Zj8 ops D): ∀ (l:List Oper) (acc:List Nat),ops.toList.drop acc.length=l→
 (∀j i,D j=true→Nat.testBit (acc.getD j 0) i=true→D i=true)→ ∀j i,D j=true→Nat.testBit ((ZxY l acc).getD j 0) i=true→D i=true
 | [],acc,_,I=>I
 |o::r,acc,J,I=>by
  have aa:acc.length<ops.size:=by
   rcases XaO acc.length ops.size with h|h
   ·exact h
   ·rw[List.drop_eq_nil_of_le (by simpa using h)]at J;cases J
  have ho:ops[acc.length]? =some o:=by
   have:(ops.toList.drop acc.length)[0]? =some o:=by rw[J];rfl
   rw[Xbv]at this
   simpa using this
  refine ZhI R r (acc++ [ZpK acc o]) (by rw[Xaw,←Xa9,J];rfl) ?_
  intro j i U hi
  rcases Nat.lt_trichotomy j acc.length with h|h|h
  ·rw[Xa1,Xar h,←Xa1]at hi
   exact I j i U hi
  ·subst h
   rw[Xa1,XaE (Xan _)]at hi
   simp only[Nat.sub_self,List.getElem?_cons_zero,Xby]at hi
   obtain⟨e,he,hb,h⟩:=ZnQ hi
   have C:=R _ o ho U e he hb
   rcases h with rfl|h
   ·exact C
   ·exact I e.on i C h
  ·rw[Xa1,List.getElem?_eq_none (by simp;omega)]at hi
   simp at hi
theorem ZfG (h:Hints) (ls:List Nat): ∀ (l:List Oper) (i:Nat),i≤Zce h ls l i∧Zce h ls l i≤i+l.length∧ ∀j o,l[j]? =some o→i+j<Zce h ls l i→has (i+j) ls=false→isW h o=false
 | [],i=>⟨Xan _,Xan _,by simp⟩
 |o::r,i=>by
  simp only[Zce]
  cases R:(!has i ls&&isW h o)with
  |true=>
   refine⟨Xan _,by simp, ?_⟩
   intro j x _ C
   simp only[cond_true]at C
   omega
  |false=>
   obtain⟨h1,h2,U⟩:=ZfG h ls r (i+1)
   refine⟨by simp only[cond_false];omega,by simp only[cond_false,Xap];omega, ?_⟩
   intro j x J C I
   cases j with
   |zero=>
    simp at J;subst J
    simp only[Nat.add_zero]at I
    simpa[I]using R
   |succ j=>
    simp only[cond_false]at C
    exact U j x (by simpa using J) (by omega) (by rw[show i+1+j=i+(j+1)from by omega];exact I)
theorem Zl9 (h:Hints) (ls:List Nat): ∀ (l:List Oper) (i:Nat),Zce h ls l i<i+l.length→has (Zce h ls l i) ls=false∧ ∃o,l[Zce h ls l i-i]? =some o∧isW h o=true
 | [],i=>by simp[Zce]
 |o::r,i=>by
  simp only[Zce]
  cases j:(!has i ls&&isW h o)with
  |true=>
   simp only[cond_true,Nat.sub_self,List.getElem?_cons_zero]
   intro _
   rw[Xag]at j
   exact⟨by simpa using j.1,o,rfl,j.2⟩
  |false=>
   simp only[cond_false,Xap]
   intro C
   obtain⟨I,J,R,U⟩:=Zl9 h ls r (i+1) (by omega)
   have h4:=(ZfG h ls r (i+1)).1
   refine⟨I,J, ?_,U⟩
   rw[show Zce h ls r (i+1)-i=(Zce h ls r (i+1)-(i+1))+1 from by omega,Xbp]
   exact R
theorem ZgX (h:Hints) (ls:List Nat): ∀ (l:List Oper) (i:Nat),∃r,Zjp h ls l i=Zce h ls l i::r
 | [],i=>⟨[],rfl⟩
 |o::l,i=>by
  obtain⟨r,j⟩:=ZgX h ls l (i+1)
  refine⟨Zce h ls l (i+1)::r, ?_⟩
  simp only[Zjp,j,Zce]
theorem ZmC (h:Hints) (ls:List Nat): ∀ (l:List Oper) (i j:Nat),j≤l.length→(Zjp h ls l i)[j]? =some (Zce h ls (l.drop j) (i+j))
 |l,i,0,_=>by
  obtain⟨r,C⟩:=ZgX h ls l i
  rw[C];rfl
 | [],i,j+1,I=>absurd I (Nat.not_succ_le_zero j)
 |o::l,i,j+1,I=>by
  have J:=ZmC h ls l (i+1) j (Nat.le_of_succ_le_succ I)
  obtain⟨r,C⟩:=ZgX h ls l (i+1)
  have e:Zjp h ls (o::l) i=(bif !has i ls&&isW h o then i else Zce h ls l (i+1))::Zjp h ls l (i+1):=by
   simp only[Zjp,C]
  rw[e,Xbp,J,List.drop_succ_cons,show i+1+j=i+(j+1)from by omega]
def Zk9 (h:Hints) (ls:List Nat) (ops:Array Oper) (i:Nat):Nat:=Zce h ls (ops.toList.drop i) i
theorem Zd3 {h:Hints} {ls:List Nat} {ops:Array Oper} {i:Nat} (hi:i≤ops.size):
 i≤Zk9 h ls ops i∧Zk9 h ls ops i≤ops.size∧(∀j o,ops[j]? =some o→i≤j→j<Zk9 h ls ops i→has j ls=false→isW h o=false)∧
 (Zk9 h ls ops i<ops.size→has (Zk9 h ls ops i) ls=false∧ ∃o,ops[Zk9 h ls ops i]? =some o∧isW h o=true):=by
 obtain⟨U,h2,h3⟩:=ZfG h ls (ops.toList.drop i) i
 have J:=Zl9 h ls (ops.toList.drop i) i
 have hl:(ops.toList.drop i).length=ops.size-i:=by rw[XaZ,Array.length_toList]
 rw[hl]at h2 J
 refine⟨U,by unfold Zk9;omega,fun j o ho aa C I=> ?_,fun C=> ?_⟩
 ·have:=h3 (j-i) o (by rw[Xbv,show i+(j-i)=j from by omega];simpa using ho)
  rw[show i+(j-i)=j from by omega]at this
  exact this C I
 ·unfold Zk9 at C⊢
  obtain⟨h5,o,R,h7⟩:=J (by omega)
  refine⟨h5,o, ?_,h7⟩
  rw[Xbv,show i+(Zce h ls (ops.toList.drop i) i-i)=Zce h ls (ops.toList.drop i) i from by omega]at R
  simpa using R
theorem ZiH {h:Hints} {ls:List Nat} {ops:Array Oper} (J:Zf4 h ls ops=true):
 (∀j o,ops[j]? =some o→ ∀e∈o.after,Region.binds .any e=true→e.on<j)∧
 ∀D,Zj8 ops D→ ∀i j x y,i<j→ops[i]? =some x→ops[j]? =some y→D j=true→D i=true∨(x.apart ops y=true∧(has i ls=true∨(has j ls=true∧isW h x=false)∨j<Zk9 h ls ops i∨(isA x=true∧(ZfM y=true∨isW h y=false)))):=by
 unfold Zf4 at J
 simp only[Xau,List.mem_range,Xag]at J
 refine⟨?_, ?_⟩
 ·intro j o U e he hb
  have I:=(Xbo.1 U).1
  have C:=(J j I).1
  unfold ZtX at C
  simp only[U,Xau,Bool.or_eq_true]at C
  have:=C e (by simpa using he)
  simpa[hb]using this
 ·intro D hD i j x y R hx hy hj
  have I:=(Xbo.1 hy).1
  have C:=(J j I).2 i R
  unfold Zwl at C
  simp only[hx,hy,Bool.or_eq_true,Xag]at C
  rcases C with C|⟨C,h2⟩
  ·exact .inl (ZhI hD ops.toList [] (by simp) (by intro j i _ h;simp at h) j i hj C)
  ·refine .inr ⟨C, ?_⟩
   rcases h2 with((h2|h2)|h2)|h2
   ·exact .inl h2
   ·exact .inr (.inl ⟨h2.1,by simpa using h2.2⟩)
   ·refine .inr (.inr (.inl ?_))
    have h3:=ZmC h ls ops.toList 0 i (by rw[Array.length_toList];omega)
    rw[Xa1,h3,Xaq]at h2
    exact Xal h2
   ·refine .inr (.inr (.inr ⟨h2.1, ?_⟩))
    rcases h2.2 with h3|h3
    ·exact .inl h3
    ·exact .inr (by simpa using h3)
theorem ZtZ {i:Nat}: ∀ {ls:List Nat},has i ls=true→i∈ls
 | [],h=>by cases h
 |j::l,h=>by
  have C:(bif Nat.beq i j then true else has i l)=true:=h
  cases I:Nat.beq i j with
  |true=>rw[Xam I];exact Xah
  |false=>rw[I,cond_false]at C;exact Xai _ (ZtZ C)
section
variable {P : Program} {h : Hints} {E : Ev} {H : List Mem} {o : Oper} {ρ ρ' : Operand → Option PV}
theorem Zda {α β:Type} {f g:α→Option β}: ∀ {l:List α},(∀x∈l,f x=g x)→ZaV f l=ZaV g l
 | [],_=>rfl
 |x::l,h=>by rw[ZgB,ZgB,h x Xah,Zda fun y j=>h y (Xai _ j)]
theorem Zf8 {parts:Array (Nat×Operand)} (j: ∀x∈parts,ρ x.2=ρ' x.2):ZfN ρ parts=ZfN ρ' parts:=by
 unfold ZfN
 exact Zda fun x C=>by rw[j x (by simpa using C)]
theorem ZmN {base:Nat} (j: ∀x∈o.op.operands,ρ x=ρ' x):opR P h E H base ρ o=opR P h E H base ρ' o:=by
 obtain⟨dst,op,type,pos,after,guard⟩:=o
 cases op<;>simp only[Op.operands,Array.mem_def]at j<;>simp only[opR]
 case build t ps=>unfold Zkf;rw[Zf8 fun x C=>j _ (by simp;exact⟨x.1,C⟩)]
 case buildSlice t n ps=>unfold ZbM;rw[Zf8 fun x C=>j _ (by simp;exact⟨x.1,C⟩)]
 case makeFunc fn first J=>
  unfold Zqt
  rw[Zda (l:=first.toList) fun x C=>j x (by simp at C⊢;exact .inl C),Zda (l:=J.toList) fun x C=>j x (by simp at C⊢;exact .inr C)]
 case slice t x lo hi U=>
  unfold Zcd
  have one: ∀y:Option Operand,(∀z,y=some z→ρ z=ρ' z)→Zm4 ρ y=Zm4 ρ' y:=fun y hy=>by cases y<;>simp[Zm4];rw[hy _ rfl]
  rw[j x (by simp),one lo fun z R=>j z (by simp[R]),one hi fun z R=>j z (by simp[R]),one U fun z R=>j z (by simp[R])]
 case call c=>
  unfold Zhz
  have I:ZaV ρ c.args.toList=ZaV ρ' c.args.toList:=Zda fun x C=>j x (by simp[Call.operands];exact .inr (by simpa using C))
  cases hc:c.callee with
  |builtin b=>simp only[Zb1,I]
  |value x=>cases x<;>simp only[ZeQ,I]
  |invoke _ _=>rfl
 case pick c x y=>unfold Zqb;rw[j c (by simp),j x (by simp),j y (by simp)]
 case move x=>rw[j x (by simp)]
 case assign x=>rw[j x (by simp)]
 case box t x=>rw[j x (by simp)]
 case load t x=>rw[j x (by simp)]
 case nilCheck x=>rw[j x (by simp)]
 case unOp op t x=>rw[j x (by simp)]
 case convert s d x=>rw[j x (by simp)]
 case fieldAddr s x f=>rw[j x (by simp)]
 case field s x f=>rw[j x (by simp)]
 case extract x i=>rw[j x (by simp)]
 case makeInterface t x=>rw[j x (by simp)]
 case typeAssert x xt u ok=>rw[j x (by simp)]
 case binOp op t x y yt=>rw[j x (by simp),j y (by simp)]
 case makeSlice t x y=>rw[j x (by simp),j y (by simp)]
 case indexAddr t x y=>rw[j x (by simp),j y (by simp)]
 case index t x y=>rw[j x (by simp),j y (by simp)]
 case lookup t x y ok=>rw[j x (by simp),j y (by simp)]
theorem ZtP (j: ∀x∈o.op.operands,ρ x=ρ' x):opW P h E H ρ o=opW P h E H ρ' o:=by
 obtain⟨dst,op,type,pos,after,guard⟩:=o
 cases op<;>simp only[Op.operands,Array.mem_def]at j<;>simp only[opW]
 case store t x y=>rw[j x (by simp),j y (by simp)]
 case mapUpdate t m k x=>rw[j m (by simp),j k (by simp),j x (by simp)]
 case insert t m k x=>rw[j m (by simp),j k (by simp),j x (by simp)]
 case call c=>
  unfold Zqg
  have C:ZaV ρ c.args.toList=ZaV ρ' c.args.toList:=Zda fun x I=>j x (by simp[Call.operands];exact .inr (by simpa using I))
  cases J:c.callee with
  |builtin b=>cases b<;>simp only[Zf2,ZdU,ZnW,Zjn,C]
  |value x=>
   have I:ρ x=ρ' x:=j x (by simp[Call.operands,J])
   cases x<;>simp only[Zm0,ZqZ,C,I]
  |invoke _ _=>rfl
theorem ZsL (j: ∀x∈o.op.operands,ρ x=ρ' x):opA P h E H ρ o=opA P h E H ρ' o:=by
 cases hw:isW h o with
 |true=>rw[ZtC hw,ZtC hw];exact ZtP j
 |false=>rw[ZpQ hw,ZpQ hw,ZmN j]
theorem Zlr (j: ∀x∈o.op.operands,ρ x=ρ' x):ZaK P h E H ρ o=ZaK P h E H ρ' o:=by
 unfold ZaK;rw[ZmN j]
variable {ops : Array Oper} {tm tm' : List (Nat × PV)}
theorem Zpx (j: ∀t∈o.looksAt ops,get tm t=get tm' t): ∀x∈o.op.operands,ev tm x=ev tm' x:=by
 intro x C
 cases x<;>simp only[ev]
 rename_i t
 exact j t (Xbf _ (List.mem_filterMap.2 ⟨.tmp t,by simpa using C,rfl⟩))
theorem ZnC (C: ∀t∈o.looksAt ops,get tm t=get tm' t):ZdM ops tm o=ZdM ops tm' o:=by
 unfold ZdM
 cases I:o.guard with
 |none=>rfl
 |some J=>
  obtain⟨j,want⟩:=J
  simp only[]
  cases R:(ops[j]?).bind (·.dst)with
  |none=>rfl
  |some d=>simp only[Xab,C d (by simp[Oper.looksAt,I,R])]
theorem ZyR {base:Nat} {v:PV} {ms:List Mem} {fz:List Nat} (j:opR P h E H base ρ o=some (v,ms,fz)): ∀id∈fz,id<H.length:=by
 unfold opR at j
 have J: ∀ {x:Option PV},val x=some (v,ms,fz)→ ∀id∈fz,id<H.length:=fun I=>by
  obtain⟨_,_,rfl⟩:=Zc5 I;simp
 have C: ∀ {α:Type} {x:Option α} {f:α→PV} {g:α→List Mem},x.map (fun a=>(f a,g a,([]:List Nat)))=some (v,ms,fz)→ ∀id∈fz,id<H.length:=fun{α x f g} I=>by
  cases x with
  |none=>simp at I
  |some a=>simp at I;obtain⟨_,_,rfl⟩:=I;simp
 split at j<;>try exact J j
 ·exact C j
 ·exact C j
 ·unfold ZbM at j
  obtain⟨ps,_,j⟩:=Zak j
  exact C j
 ·unfold Zff at j
  split at j
  ·exact C j
  ·cases j
 ·unfold Zcy at j
  obtain⟨l,_,j⟩:=Zak j
  obtain⟨c,_,j⟩:=Zak j
  exact C j
 ·unfold Zhz at j
  split at j
  ·exact J j
  ·unfold ZeQ at j
   obtain⟨_,j⟩:=Zi9 j
   obtain⟨vs,_,j⟩:=Zak j
   unfold Zgt at j
   obtain⟨qs,_,j⟩:=Zak j
   cases himp:h.imp _ with
   |true=>
    rw[himp,cond_true]at j
    unfold ZwC at j
    cases R:ZdL E _ qs base with
    |none=>rw[R]at j;cases j
    |some r=>
     rw[R]at j
     simp only[Xak,Xaf,Prod.mk.injEq]at j
     intro id hid
     rw[←j.2.2]at hid
     cases U:r.2.2 with
     |true=>rw[U]at hid;simp at hid
     |false=>
      rw[U,cond_false]at hid
      obtain⟨x,_,I⟩:=Xbd.1 hid
      exact Zpt _ _ _ I
   |false=>
   rw[himp,cond_false]at j
   unfold Zoe at j
   obtain⟨q,_,j⟩:=Zak j
   split at j
   ·cases j
    intro id hid
    obtain⟨x,_,I⟩:=Xbd.1 hid
    exact Zpt _ _ _ I
   ·obtain⟨_,j⟩:=Zar j
    cases j;simp
  ·cases j
 ·cases j
end
variable [Laid]
open Go.RowKit
section
variable {φ φ' : Phi} {w w' : World} {S S' : Nat → Prop} {B N : Nat}
def tmD (D:Nat→Bool) (dst:Nat→Option Tmp) (v:Nat→PV) (tm0:List (Nat×PV)):Nat→List (Nat×PV)
 |0=>tm0
 |i+1=>match D i,dst i with
  |true,some d=>(d,v i)::tmD D dst v tm0 i
  |_,_=>tmD D dst v tm0 i
variable {D D' : Nat → Bool} {dst : Nat → Option Tmp} {v : Nat → PV} {tm0 : List (Nat × PV)}
theorem ZgA (t:Nat): ∀n,(∀i,i<n→dst i=some t→D i=D' i)→get (tmD D dst v tm0 n) t=get (tmD D' dst v tm0 n) t
 |0,_=>rfl
 |n+1,h=>by
  have C:=ZgA t n fun i hi=>h i (by omega)
  simp only[tmD]
  cases I:dst n with
  |none=>cases D n<;>cases D' n<;>exact C
  |some d=>
   by_cases j:d=t
   ·subst j
    rw[←h n (by omega) I]
    cases D n with
    |true=>simp[Zb7]
    |false=>exact C
   ·have g: ∀ (D:Nat→Bool),get (match D n,some d with|true,some d=>(d,v n)::tmD D dst v tm0 n|_,_=>tmD D dst v tm0 n) t=get (tmD D dst v tm0 n) t:=by
     intro D
     cases D n with
     |true=>simp only[Zb7,if_neg (fun e:t=d=>j e.symm)]
     |false=>rfl
    rw[g,g,C]
theorem Zi2 {k:Nat}: ∀n,k≤n→(∀i,k≤i→i<n→D i=false)→tmD D dst v tm0 n=tmD D dst v tm0 k
 |0,h,_=>by rw[show k=0 from by omega]
 |n+1,h,j=>by
  rcases XaO n k with h'|h'
  ·rw[show k=n+1 from by omega]
  ·simp only[tmD,j n h' (by omega)]
   exact Zi2 n h' fun i C I=>j i C (by omega)
theorem Zra {j:Nat} (hj:D j=false) (C:D' j=true) (U: ∀i,i≠j→D' i=D i) {d:Nat} (hd:dst j=some d) (t:Nat): ∀n,j<n→(∀i,j<i→i<n→D i=true→dst i≠some d)→
 get (tmD D' dst v tm0 n) t=get ((d,v j)::tmD D dst v tm0 n) t
 |0,h,_=>by omega
 |n+1,h,hc=>by
  by_cases I:j=n
  ·subst I
   simp only[tmD,hj,C,hd]
   rw[Zb7,Zb7]
   have:=ZgA (D:=D') (D':=D) (dst:=dst) (v:=v) (tm0:=tm0) t j (fun i hi _=>U i (by omega))
   rw[this]
  ·have J:=Zra hj C U hd t n (by omega) fun i R h2=>hc i R (by omega)
   simp only[tmD,U n (fun e=>I e.symm)]
   cases aa:D n with
   |false=>exact J
   |true=>
    cases he:dst n with
    |none=>exact J
    |some e=>
     have ab:e≠d:=fun h'=>hc n (by omega) (by omega) aa (by rw[he,h'])
     simp only[Zb7]at J⊢
     rw[J]
     by_cases R:t=e
     ·subst R;simp[ab]
     ·simp[R]
theorem Zua {j:Nat} (C:D' j=true) (I: ∀i,i≠j→D' i=D i) (J:dst j=none) (t:Nat) (n:Nat):get (tmD D' dst v tm0 n) t=get (tmD D dst v tm0 n) t:=
 ZgA t n fun i _ hi=>I i (by rintro rfl;rw[J]at hi;cases hi)
theorem TRel.congr {tm tm':List (Nat×PV)} {a:Act} (j:TRel φ w S N tm a) (h: ∀t,get tm' t=get tm t):TRel φ w S N tm' a:=
 ⟨j.1,j.2.1,fun i p hp=>j.2.2 i p (by rw[←h];exact hp)⟩
end
def Frz (H H':List Mem):Prop:=H.length≤H'.length∧ ∀ (id:Nat) (m:Mem),H[id]? =some m→H'[id]? =some m∨ ∃es z b,m= .row es z b∧H'[id]? =some (.row es z false)
theorem Frz.refl (H:List Mem):Frz H H:=⟨Xan _,fun _ _ h=> .inl h⟩
theorem Frz.trans {H H' j:List Mem} (h:Frz H H') (C:Frz H' j):Frz H j:=⟨XaM h.1 C.1,fun id m hm=>by
 rcases h.2 id m hm with I|⟨es,z,b,rfl,I⟩
 ·exact C.2 id m I
 ·rcases C.2 id _ I with J|⟨es',z',U,R,J⟩
  ·exact .inr ⟨es,z,b,rfl,J⟩
  ·cases R;exact .inr ⟨es,z,b,rfl,J⟩⟩
theorem Frz.sub {H H':List Mem} (h:Frz H H'):Sub H H':=fun id m hm=>by
 rcases h.2 id m hm with j|⟨es,z,b,rfl,j⟩
 ·exact⟨m,j,simM.refl m⟩
 ·exact⟨_,j,by simp[simM]⟩
theorem Zfe: ∀ (ids:List Nat) (H:List Mem),Frz H (freeze ids H)
 | [],H=>Frz.refl H
 |i::ids,H=>by
  show Frz H (freeze ids (freeze1 H i))
  refine Frz.trans ⟨by rw[Zb0];exact Xan _, ?_⟩ (Zfe ids _)
  intro id m hm
  rcases ZaQ H i id with j|⟨rfl,es,z,b,j,C⟩
  ·exact .inl (by rw[j];exact hm)
  ·rw[hm]at j;cases j;exact .inr ⟨es,z,b,rfl,C⟩
theorem Frz.app (H ms:List Mem):Frz H (H++ms):=⟨by simp,fun id m hm=> .inl (by rw[Xar (Xae.1 hm).1];exact hm)⟩
theorem Zin: ∀ (ids:List Nat) (H:List Mem) (id:Nat),id∈ids→ ∀es z m,(freeze ids H)[id]? =some (.row es z m)→m=false
 |i::ids,H,id,hid,es,z,m,h=>by
  have I:(freeze ids (freeze1 H i))[id]? =some (.row es z m):=h
  by_cases hi:id∈ids
  ·exact Zin ids _ id hi es z m I
  ·have hid:id=i:=by rcases Xav.1 hid with h|h;exact h;exact absurd h hi
   subst hid
   obtain⟨b,j⟩:=Zfk ids _ _ _ _ _ I
   have:b=false:=by
    rcases ZaQ H id id with R|⟨_,es',z',b',R,U⟩
    ·unfold freeze1 at j
     split at j
     ·rename_i hx
      rw[XaK (Xae.1 hx).1]at j
      cases j;rfl
     ·rename_i J
      exact absurd j (J _ _ _)
    ·rw[U]at j;cases j;rfl
   subst this
   rcases(Zfe ids (freeze1 H id)).2 id _ j with C|⟨_,_,_,_,C⟩
   ·rw[I]at C;cases C;rfl
   ·rw[I]at C;cases C;rfl
section
variable {P : Program} {h : Hints} {E : Ev} {w : World} {φ : Phi} {S : Nat → Prop} {B : Nat} {H H' : List Mem} {N : Nat}
theorem Inv.frz (hI:Inv φ H w S B) (U:Frz H H'): ∃S',Inv φ H' w S' B∧Evo H.length B φ S w φ S' w:=by
 let l:=(List.range H.length).filter fun i=>match H'[i]? with|some (.row _ _ false)=>true|_=>false
 obtain⟨S',h1,h2,h3⟩:=hI.freeze l
 refine⟨S',h1.reheap ?_ (by rw[ZaS];exact U.1),h2⟩
 intro i l' hl
 left
 have J:=(hI.live i l' hl).2.2
 obtain⟨m,hm⟩: ∃m,H[i]? =some m:=⟨H[i],by simp[J]⟩
 rcases(Zfe l H).2 i m hm with I|⟨es,z,b,rfl,I⟩
 ·rw[I]
  rcases U.2 i m hm with C|⟨es,z,b,rfl,C⟩
  ·exact C
  ·have:i∈l:=by
    simp only[l,List.mem_filter,List.mem_range]
    exact⟨J,by rw[C]⟩
   have:=Zin l H i this _ _ _ I
   subst this
   exact C
 ·rw[I]
  rcases U.2 i _ hm with C|⟨es',z',b',h6,C⟩
  ·cases b with
   |false=>exact C
   |true=>
    have:i ∉ l:=by
     simp only[l,List.mem_filter,List.mem_range]
     rintro⟨_,R⟩
     rw[C]at R
     cases R
    exfalso
    have keep: ∀ (ids:List Nat) (H:List Mem),i ∉ ids→(Am.freeze ids H)[i]? =H[i]? :=by
     intro ids
     induction ids with
     |nil=>intro H _;rfl
     |cons j ids ih=>
      intro H hi
      show(Am.freeze ids (Am.freeze1 H j))[i]? =_
      rw[ih _ (fun R=>hi (Xai _ R))]
      rcases ZaQ H j i with h7|⟨rfl,_⟩
      ·exact h7
      ·exact absurd Xah hi
    rw[keep l H this,hm]at I
    cases I
  ·cases h6;exact C
end
variable [Laid]
open Go.RowKit
section
variable {P : Program} {h : Hints} {E : Ev} {w : World} {φ : Phi} {S : Nat → Prop} {B : Nat} {N : Nat} {ops : Array Oper} {ls : List Nat} {a : Act} {Q : Exit → Act → World → Prop}
theorem Ztp {o:Oper} {acc:List (Nat×Oper×List (Nat×PV)×PV)} {x:Nat×Oper×List (Nat×PV)×PV} (hx:x∈acc) (j: ¬ (isW h o=true∧ZdT o x.1=true)):x∈Zb9 h o acc:=by
 unfold Zb9
 cases hw:isW h o with
 |false=>rw[cond_false];exact hx
 |true=>
  rw[cond_true]
  have j:ZdT o x.1=false:=by cases I:ZdT o x.1 with
   |false=>rfl
   |true=>exact absurd ⟨hw,I⟩ j
  induction acc with
  |nil=>cases hx
  |cons y acc C=>
   show x∈(bif ZdT o y.1 then _ else y::_:List _)
   rcases Xav.1 hx with rfl|hx
   ·rw[j,cond_false];exact Xah
   ·cases ZdT o y.1 with
    |true=>rw[cond_true];exact C hx
    |false=>rw[cond_false];exact Xai _ (C hx)
theorem Zr8 {o:Oper} {acc:List (Nat×Oper×List (Nat×PV)×PV)} {x:Nat×Oper×List (Nat×PV)×PV} (hx:x∈Zb9 h o acc):x∈acc:=by
 unfold Zb9 at hx
 cases hw:isW h o with
 |false=>rw[hw,cond_false]at hx;exact hx
 |true=>
  rw[hw,cond_true]at hx
  clear hw
  induction acc with
  |nil=>cases hx
  |cons y acc j=>
   have hx:x∈(bif ZdT o y.1 then _ else y::_:List _):=hx
   cases C:ZdT o y.1 with
   |true=>rw[C,cond_true]at hx;exact Xai _ (j hx)
   |false=>
    rw[C,cond_false]at hx
    rcases Xav.1 hx with rfl|hx
    ·exact Xah
    ·exact Xai _ (j hx)
theorem Zs3 {o:Oper}:Zb9 h o []=[]:=by
 unfold Zb9
 cases isW h o<;>rfl
theorem Zqh {o:Oper} {j:Nat} (hw:ZdT o j=true): ∃e∈o.after,Region.binds .any e=true∧e.on=j:=by
 unfold ZdT at hw
 have gen: ∀l:List Edge,(List.rec (motive:=fun _=>Bool) false (fun e _ I=>bif Nat.beq e.on j&&Region.binds .any e then true else I) l)=true→ ∃e∈l,Region.binds .any e=true∧e.on=j:=by
  intro l
  induction l with
  |nil=>intro h;cases h
  |cons e l I=>
   intro h
   have h:(bif Nat.beq e.on j&&Region.binds .any e then true else _)=true:=h
   cases C:Nat.beq e.on j&&Region.binds .any e with
   |true=>
    rw[Xag]at C
    exact⟨e,Xah,C.2,Xam C.1⟩
   |false=>
    rw[C,cond_false]at h
    obtain⟨U,J,R⟩:=I h
    exact⟨U,Xai _ J,R⟩
 obtain⟨e,J,R⟩:=gen _ hw
 exact⟨e,by simpa using J,R⟩
theorem ZeZ {o:Oper} {l:List Oper} {i:Nat} {acc:List (Nat×Oper×List (Nat×PV)×PV)} {s C:St} (R:Zbd P h E N ops ls (o::l) i acc s=some C):
 ∃s1,Zci P h E N ops ls i o s=some s1∧((has i ls=true∧ ∃j,Zur P h E ops i o s acc=some j∧Zbd P h E N ops ls l (i+1) j s1=some C)∨(has i ls=false∧Zdp P h E (Zb9 h o acc) s1.hp=some ()∧Zbd P h E N ops ls l (i+1) (Zb9 h o acc) s1=some C)):=by
 have U:((Zci P h E N ops ls i o s).bind fun s1=>bif has i ls then(Zur P h E ops i o s acc).bind fun j=>Zbd P h E N ops ls l (i+1) j s1 else(Zdp P h E (Zb9 h o acc) s1.hp).bind fun _=>Zbd P h E N ops ls l (i+1) (Zb9 h o acc) s1)=some C:=R
 obtain⟨s1,h3,I⟩:=Zak U
 refine⟨s1,h3, ?_⟩
 cases J:has i ls with
 |true=>rw[J,cond_true]at I;exact .inl ⟨rfl,Zak I⟩
 |false=>
  rw[J,cond_false]at I
  obtain⟨u,h5,h6⟩:=Zak I
  exact .inr ⟨rfl,h5,h6⟩
theorem Zu8 {u v:PV} (j:Zx6 u v=true):u=v:=by
 unfold Zx6 at j
 split at j
 ·simp only[Xag,decide_eq_true_eq]at j;obtain⟨rfl,rfl⟩:=j;rfl
 ·simp only[beq_iff_eq]at j;subst j;rfl
 ·rename_i a b
  simp only[beq_iff_eq]at j
  obtain⟨⟨C⟩⟩:=a
  obtain⟨⟨I⟩⟩:=b
  simp only at j
  subst j;rfl
 ·simp only[Xag,Nat.beq_eq]at j;obtain⟨⟨⟨rfl,rfl⟩,rfl⟩,rfl⟩:=j;rfl
 ·simp only[Xag,Nat.beq_eq]at j;obtain⟨⟨rfl,rfl⟩,rfl⟩:=j;rfl
 ·rfl
 ·rfl
 ·rfl
 ·simp only[Xag,Nat.beq_eq,beq_iff_eq]at j;obtain⟨rfl,rfl⟩:=j;rfl
 ·simp only[Xag,Nat.beq_eq,decide_eq_true_eq]at j;obtain⟨rfl,rfl,rfl⟩:=j;rfl
 ·rename_i a u b
  simp only[Xag,Nat.beq_eq,beq_iff_eq]at j
  obtain⟨rfl,j⟩:=j
  obtain⟨⟨C⟩⟩:=a
  obtain⟨⟨I⟩⟩:=b
  simp only at j
  subst j;rfl
 ·cases j
theorem Zkv {s:PV→PV→Bool} (C: ∀u v,s u v=true→u=v): ∀ {a b:List PV},ZqD s a b=true→a=b
 | [],[],_=>rfl
 | [],_::_,h=>by cases h
 |_::_,[],h=>by cases h
 |x::a,y::b,h=>by
  have j:(s x y&&ZqD s a b)=true:=h
  rw[Xag]at j
  rw[C _ _ j.1,Zkv C j.2]
theorem ZoL {s:PV→PV→Bool} (C: ∀u v,s u v=true→u=v): ∀ {a b:List (List PV)},Zs5 s a b=true→a=b
 | [],[],_=>rfl
 | [],_::_,h=>by cases h
 |_::_,[],h=>by cases h
 |x::a,y::b,h=>by
  have j:(ZqD s x y&&Zs5 s a b)=true:=h
  rw[Xag]at j
  rw[Zkv C j.1,ZoL C j.2]
theorem Zgc {s:PV→PV→Bool} (j: ∀u v,s u v=true→u=v): ∀u v,ZjW s u v=true→u=v:=by
 intro u v h
 unfold ZjW at h
 split at h
 ·rw[ZoL j h]
 ·rw[Zkv j h]
 ·rw[Xag]at h
  rw[Zkv j h.1,Xam h.2]
 ·exact j _ _ h
theorem Zuz: ∀u v,Zt9 u v=true→u=v:=Zgc (Zgc (Zgc (Zgc fun _ _ h=>Zu8 h)))
theorem ZrZ {u v:PV} (j:ZfC u v=true):u=v:=by
 unfold ZfC at j
 cases h:Zt9 u v with
 |true=>exact Zuz _ _ h
 |false=>rw[h,cond_false]at j;exact @of_decide_eq_true _ (Classical.propDecidable _) j
theorem Znd (v:PV):ZfC v v=true:=by
 unfold ZfC
 cases Zt9 v v with
 |true=>rfl
 |false=>
  rw[cond_false]
  exact @decide_eq_true _ (Classical.propDecidable _) rfl
theorem Zj2 {H:List Mem}: ∀ {acc:List (Nat×Oper×List (Nat×PV)×PV)},Zdp P h E acc H=some ()→ ∀x∈acc,ZaK P h E H (ev x.2.2.1) x.2.1=some x.2.2.2
 | [],_,x,hx=>by cases hx
 |y::acc,I,x,hx=>by
  have j:((ZaK P h E H (ev y.2.2.1) y.2.1).bind fun v=>bif ZfC v y.2.2.2 then Zdp P h E acc H else none)=some ():=I
  obtain⟨v,J,j⟩:=Zak j
  cases C:ZfC v y.2.2.2 with
  |false=>rw[C,cond_false]at j;cases j
  |true=>
   rw[C,cond_true]at j
   rcases Xav.1 hx with rfl|hx
   ·rw[J,ZrZ C]
   ·exact Zj2 j x hx
theorem Zib {i:Nat} {o:Oper} {s:St} {acc j:List (Nat×Oper×List (Nat×PV)×PV)} (C:Zur P h E ops i o s acc=some j):
 (ZdM ops s.tm o=some true∧ ∃v,ZaK P h E s.hp (ev s.tm) o=some v∧j=(i,o,s.tm,v)::acc)∨(ZdM ops s.tm o=some false∧j=acc):=by
 unfold Zur at C
 obtain⟨b,I,C⟩:=Zak C
 cases b with
 |true=>
  rw[cond_true]at C
  cases J:ZaK P h E s.hp (ev s.tm) o with
  |none=>rw[J]at C;cases C
  |some v=>rw[J]at C;cases C;exact .inl ⟨I,v,rfl,rfl⟩
 |false=>rw[cond_false]at C;cases C;exact .inr ⟨I,rfl⟩
theorem Zn2 {i:Nat} {o:Oper} {s C:St} (hi:has i ls=true) (j:Zci P h E N ops ls i o s=some C):C.hp=s.hp:=by
 unfold Zci at j
 rw[hi,cond_true]at j
 unfold Zsx at j
 obtain⟨b,_,j⟩:=Zak j
 cases b with
 |true=>
  rw[cond_true]at j
  obtain⟨v,_,j⟩:=Zak j
  cases hp:Zfg N o.dst v s.tm with
  |none=>rw[hp]at j;cases j
  |some tm=>rw[hp]at j;cases j;rfl
 |false=>
  rw[cond_false]at j
  cases hp:Zfg N o.dst (.tup []) s.tm with
  |none=>rw[hp]at j;cases j
  |some tm=>rw[hp]at j;cases j;rfl
theorem ZzT: ∀ (l:List Oper) (i:Nat) (acc:List (Nat×Oper×List (Nat×PV)×PV)) (st J:St),ops.toList.drop i=l→i≤ops.size→Zbd P h E N ops ls l i acc st=some J→
 (∀x∈acc,ZaK P h E st.hp (ev x.2.2.1) x.2.1=some x.2.2.2)→
 ∃s:Nat→St,s i=st∧s ops.size=J∧(∀j o,i≤j→ops[j]? =some o→Zci P h E N ops ls j o (s j)=some (s (j+1)))∧
  (∀x∈acc,∀m,i≤m→m≤ops.size→(∀n y,i≤n→n<m→ops[n]? =some y→has n ls=false→isW h y=true→ZdT y x.1=false)→ZaK P h E (s m).hp (ev x.2.2.1) x.2.1=some x.2.2.2)∧
  (∀j o v,i≤j→ops[j]? =some o→has j ls=true→ZdM ops (s j).tm o=some true→ZaK P h E (s j).hp (ev (s j).tm) o=some v→ ∀m,j≤m→m≤ops.size→(∀n y,j≤n→n<m→ops[n]? =some y→has n ls=false→isW h y=true→ZdT y j=false)→ZaK P h E (s m).hp (ev (s j).tm) o=some v)
 | [],i,acc,st,J,hl,hi,aa,I=>by
  have aq:ops.size≤i:=by
   have:=List.drop_eq_nil_iff.1 hl
   simpa using this
  cases aa
  refine⟨fun _=>st,rfl,rfl,fun j o hj ho=> ?_,fun x hx m _ _ _=>I x hx,fun j o v hj ho=> ?_⟩
  ·have:=(Xbo.1 ho).1
   omega
  ·have:=(Xbo.1 ho).1
   omega
 |o::l,i,acc,st,J,hl,hi,aa,I=>by
  have ae:i<ops.size:=by
   rcases XaO i ops.size with h|h
   ·exact h
   ·rw[List.drop_eq_nil_of_le (by simpa using h)]at hl;cases hl
  have ho:ops[i]? =some o:=by
   have:(ops.toList.drop i)[0]? =some o:=by rw[hl];rfl
   rw[Xbv]at this
   simpa using this
  obtain⟨s1,h1,h2⟩:=ZeZ aa
  have main: ∃C,(∀x∈acc,¬ (has i ls=false∧isW h o=true∧ZdT o x.1=true)→x∈C)∧(has i ls=true→ZdM ops st.tm o=some true→ ∀v,ZaK P h E st.hp (ev st.tm) o=some v→(i,o,st.tm,v)∈C)∧(∀x∈C,ZaK P h E s1.hp (ev x.2.2.1) x.2.1=some x.2.2.2)∧Zbd P h E N ops ls l (i+1) C s1=some J:=by
   rcases h2 with⟨h3,C,h4,h5⟩|⟨h3,h4,h5⟩
   ·refine⟨C, ?_, ?_, ?_,h5⟩
    ·intro x hx _
     rcases Zib h4 with⟨_,v,_,rfl⟩|⟨_,rfl⟩
     ·exact Xai _ hx
     ·exact hx
    ·intro _ hw v R
     rcases Zib h4 with⟨_,v',af,rfl⟩|⟨ag,_⟩
     ·rw[R]at af;cases af;exact Xah
     ·rw[hw]at ag;cases ag
    ·rw[Zn2 h3 h1]
     intro x hx
     rcases Zib h4 with⟨_,v,R,rfl⟩|⟨_,rfl⟩
     ·rcases Xav.1 hx with rfl|hx
      ·exact R
      ·exact I x hx
     ·exact I x hx
   ·exact⟨Zb9 h o acc,fun x hx hn=>Ztp hx fun⟨w1,w2⟩=>hn ⟨h3,w1,w2⟩,fun h=>(by rw[h3]at h;cases h),Zj2 h4,h5⟩
  obtain⟨C,ah,ai,aj,ak⟩:=main
  obtain⟨s,e1,e2,e3,e4,e5⟩:=ZzT l (i+1) C s1 J (by rw[←Xa9,hl];rfl) ae ak aj
  have hs: ∀m,i+1≤m→(if m≤i then st else s m)=s m:=fun m hm=>if_neg (by omega)
  refine⟨fun j=>if j≤i then st else s j,by simp,by simp only[if_neg (Nat.not_le.2 ae)];exact e2,fun j x hj hx=> ?_,fun x hx m hm U hq=> ?_,fun j x v hj hx hb hw R m hm U hq=> ?_⟩
  ·by_cases ab:j=i
   ·subst ab
    rw[ho]at hx;cases hx
    simp only[Xan,if_true,if_neg (show ¬j+1≤j by omega),e1]
    exact h1
   ·simp only[if_neg (show ¬j≤i by omega),if_neg (show ¬j+1≤i by omega)]
    exact e3 j x (by omega) hx
  ·by_cases al:m=i
   ·subst al
    simp only[Xan,if_true]
    exact I x hx
   ·simp only[hs m (by omega)]
    exact e4 x (ah x hx fun⟨w0,w1,w2⟩=>(by have:=hq i o (Xan _) (by omega) ho w0 w1;rw[w2]at this;cases this)) m (by omega) U fun n y an ad=>hq n y (by omega) ad
  ·by_cases ab:j=i
   ·subst ab
    rw[ho]at hx;cases hx
    simp only[Xan,if_true]at R hw⊢
    by_cases ao:m=j
    ·subst ao
     simp only[Xan,if_true]
     exact R
    ·simp only[hs m (by omega)]
     exact e4 _ (ai hb hw v R) m (by omega) U fun n y an ad=>hq n y (by omega) ad
   ·simp only[hs j (by omega)]at R hw⊢
    simp only[hs m (by omega)]
    exact e5 j x v (by omega) hx hb hw R m hm U hq
structure At (P:Program) (h:Hints) (E:Ev) (N:Nat) (ops:Array Oper) (ls:List Nat) (i:Nat) (o:Oper) (st st':St) (v:PV):Prop where
 put:Zfg N o.dst v st.tm=some st'.tm
 kind:(ZdM ops st.tm o=some false∧v= .tup []∧st'.hp=st.hp)∨
  (ZdM ops st.tm o=some true∧has i ls=true∧ZaK P h E st.hp (ev st.tm) o=some v∧st'.hp=st.hp)∨
  (ZdM ops st.tm o=some true∧has i ls=false∧opA P h E st.hp (ev st.tm) o=some (v,st'.hp))
theorem Zpi {x:Option (List (Nat×PV))} {hp:List Mem} {st:St} (j:x.map (fun tm=>(⟨tm,hp⟩:St))=some st):x=some st.tm∧st.hp=hp:=by
 cases x with
 |none=>simp at j
 |some y=>simp at j;subst j;exact⟨rfl,rfl⟩
theorem Zo5 {i:Nat} {o:Oper} {st J:St} (j:Zci P h E N ops ls i o st=some J): ∃v,At P h E N ops ls i o st J v:=by
 unfold Zci at j
 cases U:has i ls with
 |true=>
  rw[U,cond_true]at j
  unfold Zsx at j
  obtain⟨b,R,j⟩:=Zak j
  cases b with
  |true=>
   rw[cond_true]at j
   obtain⟨v,hv,j⟩:=Zak j
   obtain⟨C,I⟩:=Zpi j
   exact⟨v,C, .inr (.inl ⟨R,U,hv,I⟩)⟩
  |false=>
   rw[cond_false]at j
   obtain⟨C,I⟩:=Zpi j
   exact⟨_,C, .inl ⟨R,rfl,I⟩⟩
 |false=>
  rw[U,cond_false]at j
  unfold ZcV at j
  obtain⟨b,R,j⟩:=Zak j
  cases b with
  |true=>
   rw[cond_true]at j
   obtain⟨⟨v,H'⟩,hv,j⟩:=Zak j
   obtain⟨C,I⟩:=Zpi j
   exact⟨v,C, .inr (.inr ⟨R,U,by rw[I];exact hv⟩)⟩
  |false=>
   rw[cond_false]at j
   obtain⟨C,I⟩:=Zpi j
   exact⟨_,C, .inl ⟨R,rfl,I⟩⟩
abbrev Zdr (ops:Array Oper) (i:Nat):Option Tmp:=(ops[i]?).bind (·.dst)
structure Tr (P:Program) (h:Hints) (E:Ev) (N:Nat) (ops:Array Oper) (ls:List Nat) (s:Nat→St) (v:Nat→PV):Prop where
 at_: ∀i o,ops[i]? =some o→At P h E N ops ls i o (s i) (s (i+1)) (v i)
 lt: ∀j o u,ops[j]? =some o→has j ls=true→ZdM ops (s j).tm o=some true→ZaK P h E (s j).hp (ev (s j).tm) o=some u→ ∀m,j≤m→m≤ops.size→(∀n y,j≤n→n<m→ops[n]? =some y→has n ls=false→isW h y=true→ZdT y j=false)→ZaK P h E (s m).hp (ev (s j).tm) o=some u
variable {s : Nat → St} {v : Nat → PV}
theorem Tr.op (_:Tr P h E N ops ls s v) {i:Nat} (hi:i<ops.size): ∃o,ops[i]? =some o:=⟨ops[i],by simp[hi]⟩
theorem Tr.len1 (T:Tr P h E N ops ls s v) (j:Good P h E) {i:Nat} (hi:i<ops.size):(s i).hp.length≤(s (i+1)).hp.length:=by
 obtain⟨o,C⟩:=T.op hi
 rcases(T.at_ i o C).kind with⟨_,_,e⟩|⟨_,_,_,e⟩|⟨_,_,e⟩
 ·rw[e];exact Xan _
 ·rw[e];exact Xan _
 ·exact Zn3 j e
theorem Tr.len (T:Tr P h E N ops ls s v) (I:Good P h E) {i:Nat}: ∀j,i≤j→j≤ops.size→(s i).hp.length≤(s j).hp.length
 |0,h,_=>by rw[show i=0 from by omega];exact Xan _
 |j+1,h,J=>by
  by_cases C:i=j+1
  ·subst C;exact Xan _
  ·exact XaM (T.len I j (by omega) (by omega)) (T.len1 I (by omega))
theorem Tr.light (T:Tr P h E N ops ls s v) {i:Nat} (hi:i<ops.size) (j:has i ls=true):(s (i+1)).hp=(s i).hp:=by
 obtain⟨o,C⟩:=T.op hi
 rcases(T.at_ i o C).kind with⟨_,_,e⟩|⟨_,_,_,e⟩|⟨_,e,_⟩
 ·exact e
 ·exact e
 ·rw[j]at e;cases e
theorem Tr.lights (T:Tr P h E N ops ls s v) {i:Nat}: ∀j,i≤j→j≤ops.size→(∀x,i≤x→x<j→has x ls=true)→(s j).hp=(s i).hp
 |0,h,_,_=>by rw[show i=0 from by omega]
 |j+1,h,R,I=>by
  by_cases C:i=j+1
  ·subst C;rfl
  ·rw[T.light (by omega) (I j (by omega) (by omega))]
   exact T.lights j (by omega) (by omega) fun x J U=>I x J (by omega)
theorem Tr.frz1 (T:Tr P h E N ops ls s v) {i:Nat} (hi:i<ops.size) (hw: ∀o,ops[i]? =some o→has i ls=false→isW h o=false):Frz (s i).hp (s (i+1)).hp:=by
 obtain⟨o,j⟩:=T.op hi
 rcases(T.at_ i o j).kind with⟨_,_,e⟩|⟨_,_,_,e⟩|⟨_,I,e⟩
 ·rw[e];exact Frz.refl _
 ·rw[e];exact Frz.refl _
 ·rw[ZpQ (hw o j I)]at e
  unfold ZiN at e
  cases C:opR P h E (s i).hp (s i).hp.length (ev (s i).tm) o with
  |none=>simp[C]at e
  |some x=>
   obtain⟨q,ms,fz⟩:=x
   simp only[C,Xak,Xaf,Prod.mk.injEq]at e
   rw[←e.2]
   exact(Zfe _ _).trans (Frz.app _ _)
theorem Tr.frz (T:Tr P h E N ops ls s v) {i:Nat}: ∀j,i≤j→j≤ops.size→(∀x o,i≤x→x<j→ops[x]? =some o→has x ls=false→isW h o=false)→Frz (s i).hp (s j).hp
 |0,h,_,_=>by rw[show i=0 from by omega];exact Frz.refl _
 |j+1,h,R,hw=>by
  by_cases C:i=j+1
  ·subst C;exact Frz.refl _
  ·exact(T.frz j (by omega) (by omega) fun x o I U=>hw x o I (by omega)).trans (T.frz1 (by omega) fun o J=>hw j o (by omega) (by omega) J)
theorem Zsy {d:Option Tmp} {u:PV} {tm tm':List (Nat×PV)} (hp:Zfg N d u tm=some tm'):(∀t,d=some t→t<N∧tm'=(t,u)::tm)∧(d=none→tm'=tm):=by
 unfold Zfg at hp
 cases d with
 |none=>simp at hp;exact⟨by simp,fun _=>hp.symm⟩
 |some t=>
  simp only[]at hp
  obtain⟨j,C⟩:=Zar hp
  cases C
  exact⟨fun I e=>by cases e;exact⟨j,rfl⟩,by simp⟩
theorem Tr.full (T:Tr P h E N ops ls s v) {D:Nat→Bool}: ∀m,m≤ops.size→(∀i,i<m→D i=true)→tmD D (Zdr ops) v (s 0).tm m=(s m).tm
 |0,_,_=>rfl
 |m+1,hm,j=>by
  obtain⟨o,C⟩:=T.op (i:=m) hm
  have I:=T.full m (by omega) fun i hi=>j i (by omega)
  have hp:=Zsy (T.at_ m o C).put
  simp only[tmD,j m (by omega),Zdr,C,Xab]
  cases J:o.dst with
  |none=>rw[(hp.2 J)];exact I
  |some d=>rw[(hp.1 d J).2,←I]
def FrzAt (H H':List Mem) (id:Nat):Prop:= ∀m,H[id]? =some m→H'[id]? =some m∨ ∃es z b,m= .row es z b∧H'[id]? =some (.row es z false)
theorem FrzAt.trans {H H' j:List Mem} {id:Nat} (R:FrzAt H H' id) (J:FrzAt H' j id):FrzAt H j id:=fun m hm=>by
 rcases R m hm with C|⟨es,z,b,rfl,C⟩
 ·exact J m C
 ·rcases J _ C with I|⟨es',z',b',U,I⟩
  ·exact .inr ⟨es,z,b,rfl,I⟩
  ·cases U;exact .inr ⟨es,z,b,rfl,I⟩
theorem Frz.at {H H':List Mem} (h:Frz H H') (id:Nat):FrzAt H H' id:=fun m hm=>h.2 id m hm
structure DInv (h:Hints) (N:Nat) (ops:Array Oper) (ls:List Nat) (s:Nat→St) (v:Nat→PV) (B:Nat) (φ0:Phi) (S0:Nat→Prop) (w0:World) (D:Nat→Bool) (b m:Nat) (φ:Phi) (S:Nat→Prop) (w:World) (a:Act):Prop where
 tm:TRel φ w S N (tmD D (Zdr ops) v (s 0).tm ops.size) a
 seg:b≤ops.size∧m=Zk9 h ls ops b
 inv:Inv φ (s m).hp w S B
 un: ∀i,i<m→has i ls=false→D i=false→ ∀id,(s i).hp.length≤id→id<(s (i+1)).hp.length→φ id=none∧FrzAt (s (i+1)).hp (s m).hp id
 hi: ∀i,m≤i→i<ops.size→has i ls=false→D i=false
 lo: ∀i,i<b→has i ls=false→D i=true∨ ∃o,ops[i]? =some o∧isA o=true
 evo:Evo (s 0).hp.length B φ0 S0 w0 φ S w
variable {φ0 : Phi} {S0 : Nat → Prop} {w0 : World} {D : Nat → Bool} {b m : Nat}
theorem ZyF {ρ:Operand→Option PV} {base:Nat} {o:Oper} {H:List Mem} (I:isA o=true) {r:PV×List Mem×List Nat} (j:opR P h E H base ρ o=some r) (H':List Mem):opR P h E H' base ρ o=some r∧r.2.2=[]:=by
 unfold isA at I
 unfold opR at j⊢
 have C: ∀ {α:Type} {x:Option α} {f:α→PV} {g:α→List Mem},x.map (fun a=>(f a,g a,([]:List Nat)))=some r→r.2.2=[]:=fun{α x f g} J=>by
  cases x with
  |none=>simp at J
  |some a=>simp at J;subst J;rfl
 cases R:o.op<;>simp only[R]at I j⊢ <;>try (cases I;done)
 ·exact⟨j,C j⟩
 ·exact⟨j,C j⟩
 ·refine⟨j, ?_⟩
  unfold ZbM at j
  obtain⟨ps,_,j⟩:=Zak j
  exact C j
theorem ZxI {o:Oper} (j:isA o=true):isW h o=false:=by
 unfold isA at j
 unfold isW
 cases C:o.op<;>simp only[C]at j⊢ <;>cases j
theorem ZrT (hG:Good P h E) (hd:Zf4 h ls ops=true) (T:Tr P h E N ops ls s v) (I:DInv h N ops ls s v B φ0 S0 w0 D b m φ S w a) (ay:Zj8 ops D) {j:Nat} {o:Oper} (ho:ops[j]? =some o) (ae:D j=false)
 (az:Zj8 ops fun i=>D i||i==j) {K:Act→World→Prop} (hK: ∀b' m' φ' S' w' a',DInv h N ops ls s v B φ0 S0 w0 (fun i=>D i||i==j) b' m' φ' S' w' a'→K a' w'):wpOp P ops Q j K a w:=by
 have ah:=ZiH hd
 have aq:j<ops.size:=(Xbo.1 ho).1
 have ab: ∀i,i≠j→(D i||i==j)=D i:=fun i hi=>by simp[hi]
 obtain⟨bl,af,ai,aj⟩:=Zd3 (h:=h) (ls:=ls) I.seg.1
 rw[←I.seg.2]at bl af ai aj
 have early: ∀i x,i<j→ops[i]? =some x→D i=true∨(x.apart ops o=true∧(has i ls=true∨(has j ls=true∧isW h x=false)∨j<Zk9 h ls ops i∨(isA x=true∧(ZfM o=true∨isW h o=false)))):=by
  intro i x U hx
  have:=ah.2 _ az i j x o U hx ho (by simp)
  rw[ab i (by omega)]at this
  exact this
 have late: ∀i y,j<i→ops[i]? =some y→D i=true→o.apart ops y=true:=by
  intro i y U R ag
  rcases ah.2 D ay j i o y U ho R ag with h1|h1
  ·rw[ae]at h1;cases h1
  ·exact h1.1
 have bm:j≤m:=by
  rcases XaO m j with hmj|hmj
  ·obtain⟨h1,y,R,hw⟩:=aj (by omega)
   have bn:=I.hi m (Xan _) (by omega) h1
   rcases early m y hmj R with h2|⟨_,h2|⟨_,h2⟩|h2|⟨h2,_⟩⟩
   ·rw[bn]at h2;cases h2
   ·rw[h1]at h2;cases h2
   ·rw[hw]at h2;cases h2
   ·have:=(Zd3 (h:=h) (ls:=ls) (ops:=ops) (i:=m) af)
    exfalso
    rcases XaO m (Zk9 h ls ops m)with h3|h3
    ·have:=this.2.2.1 m y R (Xan _) h3 h1
     rw[hw]at this;cases this
    ·omega
   ·rw[ZxI (h:=h) h2]at hw;cases hw
  ·exact hmj
 have looks: ∀t∈o.looksAt ops,get (tmD D (Zdr ops) v (s 0).tm ops.size) t=get (s j).tm t:=by
  intro t ht
  have h1:get (tmD D (Zdr ops) v (s 0).tm ops.size) t=get (tmD (fun i=>decide (i<j)) (Zdr ops) v (s 0).tm ops.size) t:=by
   refine ZgA t _ fun i hi bo=> ?_
   obtain⟨x,hx⟩:=T.op hi
   have a1:x.dst=some t:=by simpa[Zdr,hx]using bo
   rcases Nat.lt_trichotomy i j with h2|h2|h2
   ·rcases early i x h2 hx with h3|h3
    ·simp[h3,h2]
    ·exact absurd ht ((Oper.apart_spec h3.1).1 t a1)
   ·subst h2;simp[ae]
   ·cases ag:D i with
    |false=>simp;omega
    |true=>exact absurd ht ((Oper.apart_spec (late i x h2 hx ag)).2.2 t a1)
  rw[h1,Zi2 (k:=j) _ (by omega) (fun i h2 _=>by simp;omega),T.full j (by omega) (fun i h2=>by simp[h2])]
 have a6: ∀t,get (tmD (fun i=>D i||i==j) (Zdr ops) v (s 0).tm ops.size) t=get (match o.dst with|some d=>(d,v j)::tmD D (Zdr ops) v (s 0).tm ops.size|none=>tmD D (Zdr ops) v (s 0).tm ops.size) t:=by
  intro t
  cases hd:o.dst with
  |none=>exact Zua (j:=j) (by simp) (fun i hi=>ab i hi) (by simp[Zdr,ho,hd]) t _
  |some d=>
   refine Zra (j:=j) ae (by simp) (fun i hi=>ab i hi) (by simp[Zdr,ho,hd]) t _ aq ?_
   intro i h1 h2 h3 h4
   obtain⟨y,R⟩:=T.op h2
   exact(Oper.apart_spec (late i y h1 R h3)).2.1 d hd (by simpa[Zdr,R]using h4)
 have a7:=T.at_ j o ho
 have aa: ∀ {φ':Phi} {S':Nat→Prop} {w':World} {u:Value},TRel φ' w' S' N (tmD D (Zdr ops) v (s 0).tm ops.size) a→VRel φ' w' S' (v j) u→TRel φ' w' S' N (tmD (fun i=>D i||i==j) (Zdr ops) v (s 0).tm ops.size) (a.put o.dst u):=by
  intro φ' S' w' u ht hv
  refine TRel.congr (Zg5 (tm':=match o.dst with|some d=>(d,v j)::tmD D (Zdr ops) v (s 0).tm ops.size|none=>tmD D (Zdr ops) v (s 0).tm ops.size) ?_ ht hv) a6
  have hp:=Zsy a7.put
  unfold Zfg
  cases hd:o.dst with
  |none=>rfl
  |some d=>simp only[if_pos (hp.1 d hd).1]
 have stay: ∀ {φ':Phi} {S':Nat→Prop} {w':World} {a':Act},has j ls=true∨j<m→TRel φ' w' S' N (tmD (fun i=>D i||i==j) (Zdr ops) v (s 0).tm ops.size) a'→Inv φ' (s m).hp w' S' B→Evo (s 0).hp.length B φ S w φ' S' w'→
  (∀i,i<m→has i ls=false→D i=false→i≠j→ ∀id,(s i).hp.length≤id→id<(s (i+1)).hp.length→φ' id=none)→K a' w':=by
  intro φ' S' w' a' hc ht hI hE ar
  refine hK b m φ' S' w' a' ⟨ht,I.seg,hI, ?_, ?_, ?_,I.evo.trans hE⟩
  ·intro i h1 h2 h3 id h4 J
   have U:i≠j:=by rintro rfl;simp at h3
   rw[ab i U]at h3
   exact⟨ar i h1 h2 h3 U id h4 J,(I.un i h1 h2 h3 id h4 J).2⟩
  ·intro i h1 h2 h3
   have U:i≠j:=by
    rintro rfl
    rcases hc with hc|hc
    ·rw[h3]at hc;cases hc
    ·omega
   show(D i||i==j)=false
   rw[ab i U]
   exact I.hi i h1 h2 h3
  ·intro i h1 h2
   rcases I.lo i h1 h2 with h3|h3
   ·exact .inl (by simp[h3])
   ·exact .inr h3
 have left:has j ls=false→j=m→ ∀i,i<m→has i ls=false→D i=false→ ∃x,ops[i]? =some x∧isA x=true∧(ZfM o=true∨isW h o=false):=by
  intro hj C i h1 h2 h3
  obtain⟨x,hx⟩:=T.op (i:=i) (by omega)
  obtain⟨_,y,R,hw⟩:=aj (by omega)
  rw[←C,ho]at R
  cases R
  rcases early i x (by omega) hx with h4|⟨_,h4|⟨h4,_⟩|h4|h4⟩
  ·rw[h3]at h4;cases h4
  ·rw[h2]at h4;cases h4
  ·rw[hj]at h4;cases h4
  ·have:=(Zd3 (h:=h) (ls:=ls) (ops:=ops) (i:=i) (by omega)).2.2.1 j o ho (by omega) h4 hj
   rw[hw]at this;cases this
  ·exact⟨x,hx,h4.1,h4.2⟩
 have move: ∀ {φ':Phi} {S':Nat→Prop} {w':World} {a':Act},has j ls=false→j=m→TRel φ' w' S' N (tmD (fun i=>D i||i==j) (Zdr ops) v (s 0).tm ops.size) a'→Inv φ' (s (j+1)).hp w' S' B→Evo (s 0).hp.length B φ S w φ' S' w'→
  (∀i,i<m→has i ls=false→D i=false→ ∀id,(s i).hp.length≤id→id<(s (i+1)).hp.length→φ' id=none∧FrzAt (s m).hp (s (j+1)).hp id)→K a' w':=by
  intro φ' S' w' a' hj C ht hI hE ar
  have a8:j+1≤ops.size:=aq
  obtain⟨n1,n2,n3,_⟩:=Zd3 (h:=h) (ls:=ls) a8
  have hF:=T.frz (i:=j+1) (Zk9 h ls ops (j+1)) n1 n2 fun x y h1 h2 R h3=>n3 x y R h1 h2 h3
  obtain⟨S2,bp,ba⟩:=hI.frz hF
  have hlen:=T.len hG (i:=j+1) (Zk9 h ls ops (j+1)) n1 n2
  refine hK (j+1) (Zk9 h ls ops (j+1)) φ' S2 w' a' ⟨ht.evo ba hI (Xan _),⟨a8,rfl⟩,bp, ?_, ?_, ?_,I.evo.trans (hE.trans (ba.mono (XaM (T.len hG j (Xao _) (by omega)) (T.len1 hG aq))))⟩
  ·intro i h1 h2 h3 id h4 J
   have U:i≠j:=by rintro rfl;simp at h3
   rw[ab i U]at h3
   rcases XaO i j with h6|h6
   ·obtain⟨h7,h8⟩:=ar i (by omega) h2 h3 id h4 J
    exact⟨h7,((I.un i (by omega) h2 h3 id h4 J).2.trans h8).trans (hF.at id)⟩
   ·have h7:=T.len hG (i:=j+1) i (by omega) (by omega)
    refine⟨?_,(T.frz (i:=i+1) (Zk9 h ls ops (j+1)) (by omega) n2 fun x y g1 g2 R g3=>n3 x y R (by omega) g2 g3).at id⟩
    cases hc:φ' id with
    |none=>rfl
    |some l=>have:=(hI.live id l hc).2.2;omega
  ·intro i h1 h2 h3
   show(D i||i==j)=false
   rw[ab i (by omega)]
   exact I.hi i (by omega) h2 h3
  ·intro i h1 h2
   by_cases U:i=j
   ·exact .inl (by simp[U])
   ·cases ag:D i with
    |true=>exact .inl (by simp[ag])
    |false=>
     obtain⟨x,hx,hA,_⟩:=left hj C i (by omega) h2 ag
     exact .inr ⟨x,hx,hA⟩
 have ad:(s 0).hp.length≤(s m).hp.length:=T.len hG m (by omega) af
 have hw:=ZnC (ops:=ops) looks
 unfold wpOp
 simp only[ho]
 rcases a7.kind with⟨h1,h2,h3⟩|⟨h1,h2,h3,h4⟩|⟨h1,h2,h3⟩
 ·rw[Zej (hw.trans h1) I.tm]
  simp only[XaG,if_false]
  have hp:=aa I.tm (show VRel φ w S (v j) undef by rw[h2];exact Zd7)
  by_cases hc:has j ls=true∨j<m
  ·exact stay hc hp I.inv (Evo.refl _ _ _ _ _) (fun i h4 J h6 _ id h7 h8=>(I.un i h4 J h6 id h7 h8).1)
  ·have bq:has j ls=false:=by cases hh:has j ls<;>simp_all
   have C:j=m:=by omega
   refine move bq C hp (by rw[h3,C];exact I.inv) (Evo.refl _ _ _ _ _) fun i h4 J h6 id h7 h8=>⟨(I.un i h4 J h6 id h7 h8).1, ?_⟩
   rw[h3,C]
   exact fun m hm=> .inl hm
 ·rw[Zej (hw.trans h1) I.tm]
  simp only[if_true]
  left
  have hl:ZaK P h E (s m).hp (ev (tmD D (Zdr ops) v (s 0).tm ops.size)) o=some (v j):=by
   rw[Zlr (Zpx looks)]
   refine T.lt j o _ ho h2 h1 h3 m bm af fun n y b5 br R bc au=> ?_
   have bs:n<b:=by
    rcases XaO n b with h9|h9
    ·exact h9
    ·have:=ai n y R h9 br bc
     rw[au]at this;cases this
   have bt:D n=true:=by
    rcases I.lo n bs bc with h9|⟨y',bd,h9⟩
    ·exact h9
    ·rw[R]at bd;cases bd
     rw[ZxI (h:=h) h9]at au;cases au
   cases bu:ZdT y j with
   |false=>rfl
   |true=>
    obtain⟨e,bw,bx,bz⟩:=Zqh bu
    have:=ay n y R bt e bw bx
    rw[bz,ae]at this;cases this
  unfold ZaK at hl
  obtain⟨⟨q,ms,fz⟩,hr,hl⟩:=Zak hl
  split at hl
  ·rename_i q' heq
   cases heq
   cases hl
   refine Zsu hG I.inv I.tm hr (fun i m hm=>by simp at hm) (fun id hid=>by simp at hid) ?_
   intro u w' φ' S' J h6 h7 h8
   refine stay (.inl h2) (aa (I.tm.evo h6 I.inv (Xan _)) h7) J (h6.mono ad) ?_
   intro i h9 h10 ak _ id al an
   rw[h8 id (by simp)]
   exact(I.un i h9 h10 ak id al an).1
  ·cases hl
 ·rw[Zej (hw.trans h1) I.tm]
  simp only[if_true]
  left
  rw[←ZsL (Zpx looks)]at h3
  by_cases av:j<m
  ·
   have b0:isW h o=false∧(b≤j∨isA o=true):=by
    rcases XaO j b with h4|h4
    ·rcases I.lo j h4 h2 with J|⟨o',bf,J⟩
     ·rw[ae]at J;cases J
     ·rw[ho]at bf;cases bf
      exact⟨ZxI J, .inr J⟩
    ·exact⟨ai j o ho h4 av h2, .inl h4⟩
   obtain⟨hW,hA⟩:=b0
   rw[ZpQ hW]at h3
   unfold ZiN at h3
   cases hr:opR P h E (s j).hp (s j).hp.length (ev (tmD D (Zdr ops) v (s 0).tm ops.size)) o with
   |none=>simp[hr]at h3
   |some x=>
    obtain⟨q,ms,fz⟩:=x
    simp only[hr,Xak,Xaf,Prod.mk.injEq]at h3
    obtain⟨rfl,aw⟩:=h3
    have b6:(s (j+1)).hp.length=(s j).hp.length+ms.length:=by rw[←aw];simp[ZaS]
    have b1:opR P h E (s m).hp (s j).hp.length (ev (tmD D (Zdr ops) v (s 0).tm ops.size)) o=some (v j,ms,fz):=by
     rcases hA with hA|hA
     ·exact ZoI (T.frz m (by omega) af fun x y g1 g2 R g3=>ai x y R (by omega) g2 g3).sub hr
     ·exact(ZyF hA hr _).1
    refine Zsu hG I.inv I.tm b1 ?_ ?_ ?_
    ·intro i x hx
     have b7:=(Xae.1 hx).1
     have h4:(s (j+1)).hp[(s j).hp.length+i]? =some x:=by
      rw[←aw,XaE (by rw[ZaS];omega),ZaS,show(s j).hp.length+i-(s j).hp.length=i from by omega]
      exact hx
     obtain⟨J,h6⟩:=I.un j av h2 ae ((s j).hp.length+i) (by omega) (by omega)
     rcases h6 _ h4 with h6|⟨es,z,b,rfl,h6⟩
     ·exact⟨x,h6, .inl rfl,J⟩
     ·exact⟨_,h6, .inr ⟨es,z,b,rfl,rfl⟩,J⟩
    ·intro id hid l es z bb hl hm
     rcases hA with hA|hA
     ·have b2:Frz (s (j+1)).hp (s m).hp:=T.frz m (by omega) af fun x y g1 g2 R g3=>ai x y R (by omega) g2 g3
      have ao:=ZyR hr id hid
      obtain⟨m0,ax⟩: ∃m0,(s j).hp[id]? =some m0:=⟨(s j).hp[id],by simp[ao]⟩
      have hb:bb=false:=by
       obtain⟨m1,bg,b8⟩:=Zc8 fz (s j).hp id m0 ax
       have h4:(s (j+1)).hp[id]? =some m1:=by rw[←aw,Xar (by rw[ZaS];exact ao)];exact bg
       rcases b2.2 id m1 h4 with J|⟨es',z',b',_,J⟩
       ·rw[hm]at J;cases J
        exact Zin fz _ id hid _ _ _ bg
       ·rw[hm]at J;cases J;rfl
      subst hb
      exact(I.inv.row id l es z false hl hm).frz rfl
     ·have:=(ZyF hA hr []).2
      simp only at this
      rw[this]at hid;cases hid
    ·intro u w' φ' S' J h6 h7 h8
     refine stay (.inr av) (aa (I.tm.evo h6 I.inv (Xan _)) h7) J (h6.mono ad) ?_
     intro i h9 h10 ak al id an bh
     have:φ' id=φ id:=by
      apply h8
      rcases Nat.lt_or_gt_of_ne al with h15|h15
      ·have:=T.len hG (i:=i+1) j (by omega) (by omega)
       omega
      ·have:=T.len hG (i:=j+1) i (by omega) (by omega)
       omega
     rw[this]
     exact(I.un i h9 h10 ak id an bh).1
  ·have C:j=m:=by omega
   have hs:(s j).hp=(s m).hp:=by rw[C]
   have bj:(s 0).hp.length≤(s j).hp.length:=by rw[hs];exact ad
   cases bk:ZfM o with
   |true=>
    have b3:isW h o=true:=by
     obtain⟨_,y,R,hw⟩:=aj (by omega)
     rw[←C,ho]at R;cases R;exact hw
    rw[ZtC b3]at h3
    refine ZwD hG bk (by rw[hs];exact I.inv) I.tm h3 ?_
    intro u w' φ' S' h4 J h6 h7
    refine move h2 C (aa (I.tm.evo J I.inv (by rw[hs];exact Xan _)) h6) h4 (J.mono bj) ?_
    intro i h8 h9 h10 id ak al
    have an:=(I.un i h8 h9 h10 id ak al).1
    have bh:=T.len hG (i:=i+1) j (by omega) (by omega)
    obtain⟨h15,b4⟩:=h7 id (by omega) an
    exact⟨h15,fun m0 ax=>b4 m0 (by rw[hs];exact ax)⟩
   |false=>
    refine Zv2 hG (by rw[hs];exact I.inv) I.tm h3 ?_
    intro u w' φ' S' h4 J h6
    refine move h2 C (aa (I.tm.evo J I.inv (by rw[hs];exact Xan _)) h6) h4 (J.mono bj) ?_
    intro i h7 h8 h9 _ _ _
    obtain⟨_,_,_,h10⟩:=left h2 C i h7 h8 h9
    obtain⟨_,y,R,hw⟩:=aj (by omega)
    rw[←C,ho]at R;cases R
    rw[bk,hw]at h10
    rcases h10 with h10|h10<;>cases h10
theorem ZqP {l:List Nat} {p q:Nat→Bool} {j:Nat} (h: ∀x,q x=true→p x=true) (hj:j∈l) (C:p j=true) (I:q j=false):l.countP q<l.countP p:=by
 induction l with
 |nil=>simp at hj
 |cons x l J=>
  rw[List.countP_cons,List.countP_cons]
  have hle:l.countP q≤l.countP p:=List.countP_mono_left fun y _ R=>h y R
  rcases Xav.1 hj with rfl|hj
  ·simp[C,I];omega
  ·have:=J hj
   cases U:q x with
   |false=>simp;split<;>omega
   |true=>simp[h x U];omega
theorem ZuL (hG:Good P h E) (hd:Zf4 h ls ops=true) (T:Tr P h E N ops ls s v)
 (hQ: ∀a' w' φ' S',Inv φ' (s ops.size).hp w' S' B→Evo (s 0).hp.length B φ0 S0 w0 φ' S' w'→TRel φ' w' S' N (s ops.size).tm a'→Q .normal a' w'):
 ∀ (fuel:Nat) (listed:Array Bool) (b m:Nat) (φ:Phi) (S:Nat→Prop) (w:World) (a:Act),listed.size=ops.size→Zj8 ops (fun i=>listed.getD i false)→DInv h N ops ls s v B φ0 S0 w0 (fun i=>listed.getD i false) b m φ S w a→
   (List.range ops.size).countP (fun i=> !listed.getD i false)≤fuel→wpAny P .any ops Q fuel listed a w:=by
 have done: ∀ (listed:Array Bool) (b m:Nat) (φ:Phi) (S:Nat→Prop) (w:World) (a:Act),listed.size=ops.size→DInv h N ops ls s v B φ0 S0 w0 (fun i=>listed.getD i false) b m φ S w a→(∀i,i<ops.size→listed.getD i false=true)→Q .normal a w:=by
  intro listed b m φ S w a J I C
  obtain⟨_,ah,_,al⟩:=Zd3 (h:=h) (ls:=ls) I.seg.1
  rw[←I.seg.2]at ah al
  have an:(s ops.size).hp=(s m).hp:=by
   refine T.lights ops.size ah (Xan _) fun x h1 h2=> ?_
   cases U:has x ls with
   |true=>rfl
   |false=>
    have:=I.hi x h1 h2 U
    have aa:=C x h2
    rw[show listed.getD x false=false from this]at aa
    cases aa
  have ao:=T.full (D:=fun i=>listed.getD i false) ops.size (Xan _) C
  exact hQ a w φ S (by rw[an];exact I.inv) I.evo (by rw[←ao];exact I.tm)
 have all: ∀ (listed:Array Bool),listed.size=ops.size→Region.ready .any ops listed=[]→ ∀i,i<ops.size→listed.getD i false=true:=by
  intro listed J hr i
  induction i using Nat.strongRecOn with
  |ind i ih=>
   intro hi
   cases hc:listed.getD i false with
   |true=>rfl
   |false=>
    exfalso
    have ab:i∈Region.ready .any ops listed:=by
     rw[mem_ready]
     refine⟨?_,ops[i],by simp[hi],fun e he hb=> ?_⟩
     ·have:i<listed.size:=by omega
      simpa[this]using hc
     ·have:=(ZiH hd).1 i ops[i] (by simp[hi]) e he hb
      exact ih e.on this (by omega)
    rw[hr]at ab
    simp at ab
 intro fuel
 induction fuel with
 |zero=>
  intro listed b m φ S w a J ae I hc
  have C: ∀i,i<ops.size→listed.getD i false=true:=by
   intro i hi
   cases U:listed.getD i false with
   |true=>rfl
   |false=>
    have:0<(List.range ops.size).countP (fun i=> !listed.getD i false):=List.countP_pos_iff.2 ⟨i,by simpa using hi,by simp only[U,XbC]⟩
    omega
  refine⟨?_,done listed b m φ S w a J I C⟩
  cases hr:Region.ready .any ops listed with
  |nil=>rfl
  |cons x r=>
   have U:x∈Region.ready .any ops listed:=by rw[hr];exact Xah
   obtain⟨h1,o,ho,_⟩:=mem_ready.1 U
   have af:=(Xbo.1 ho).1
   have h2:=C x af
   have h3:x<listed.size:=by omega
   simp[h3]at h1 h2
   rw[h1]at h2;cases h2
 |succ fuel ih=>
  intro listed b m φ S w a J ae I hc
  refine⟨fun hr=>done listed b m φ S w a J I (all listed J hr),fun j hj=> ?_⟩
  obtain⟨h1,o,ho,C⟩:=mem_ready.1 hj
  have af:=(Xbo.1 ho).1
  have ai:j<listed.size:=by omega
  have aj:listed.getD j false=false:=by simpa[ai]using h1
  have R:(fun i=>(listed.setIfInBounds j true).getD i false)=fun i=>listed.getD i false||i==j:=by
   funext i
   by_cases ag:i=j
   ·subst ag;simp[ai]
   ·rw[getD_set_ne false (fun e=>ag e.symm)];simp[ag]
  have ad:Zj8 ops fun i=>listed.getD i false||i==j:=by
   intro x y hy U e he hb
   show(listed.getD e.on false||e.on==j)=true
   have aq:(listed.getD x false||x==j)=true:=U
   by_cases ak:x=j
   ·subst ak
    rw[ho]at hy;cases hy
    simp only[C e he hb,Bool.true_or]
   ·have:listed.getD x false=true:=by simpa only[show(x==j)=false from by simpa using ak,Bool.or_false]using aq
    have:=ae x y hy this e he hb
    simp only[show listed.getD e.on false=true from this,Bool.true_or]
  refine ZrT hG hd T I ae ho aj ad ?_
  intro b' m' φ' S' w' a' I'
  refine ih _ b' m' φ' S' w' a' (by simpa using J) (by rw[R];exact ad) (by rw[R];exact I') ?_
  have:(List.range ops.size).countP (fun i=> !(listed.setIfInBounds j true).getD i false)<(List.range ops.size).countP (fun i=> !listed.getD i false):=by
   refine ZqP (j:=j) (fun x U=> ?_) (by simpa using af) (by simp only[aj,XbC]) ?_
   ·rw[show(listed.setIfInBounds j true).getD x false=(listed.getD x false||x==j)from congrFun R x]at U
    cases ar:listed.getD x false with
    |true=>simp only[ar,Bool.true_or,Bool.not_true]at U;cases U
    |false=>rfl
   ·rw[show(listed.setIfInBounds j true).getD j false=(listed.getD j false||j==j)from congrFun R j]
    simp
  omega
theorem Zw7 (hG:Good P h E) (hd:Zf4 h ls ops=true) {I R:St} (aa:Zbd P h E N ops ls ops.toList 0 [] I=some R) (hI:Inv φ I.hp w S B) (ht:TRel φ w S N I.tm a)
 (hQ: ∀a' w' φ' S',Inv φ' R.hp w' S' B→Evo I.hp.length B φ S w φ' S' w'→TRel φ' w' S' N R.tm a'→Q .normal a' w'):wpAny P .any ops Q ops.size (Array.replicate ops.size false) a w:=by
 obtain⟨s,rfl,rfl,hs,_,ab⟩:=ZzT ops.toList 0 [] I R rfl (Xao _) aa (by simp)
 have hv: ∀i,∃u,∀o,ops[i]? =some o→At P h E N ops ls i o (s i) (s (i+1)) u:=by
  intro i
  cases J:ops[i]? with
  |none=>exact⟨.nilp,by simp⟩
  |some o=>
   obtain⟨u,hu⟩:=Zo5 (hs i o (Xao _) J)
   exact⟨u,fun o' ad=>by cases ad;exact hu⟩
 obtain⟨v,hv⟩:=Classical.axiomOfChoice hv
 have T:Tr P h E N ops ls s v:=⟨fun i o J=>hv i o J,fun j o u J hb hw hl m hm ae hq=>ab j o u (Xao _) J hb hw hl m hm ae hq⟩
 obtain⟨_,n2,n3,_⟩:=Zd3 (h:=h) (ls:=ls) (ops:=ops) (i:=0) (Xao _)
 have af:=T.frz (i:=0) (Zk9 h ls ops 0) (Xao _) n2 fun x y h1 U hy h3=>n3 x y hy h1 U h3
 obtain⟨S1,h1,U⟩:=hI.frz af
 have C:(fun i=>(Array.replicate ops.size false).getD i false)=fun _=>false:=by
  funext i
  by_cases hi:i<ops.size<;>simp[hi]
 refine ZuL hG hd T (φ0:=φ) (S0:=S) (w0:=w) hQ ops.size _ 0 (Zk9 h ls ops 0) φ S1 w a (by simp) (by rw[C];intro j o _ h;cases h) ?_ (XaM List.countP_le_length (by simp))
 rw[C]
 refine⟨?_,⟨Xao _,rfl⟩,h1, ?_,fun _ _ _ _=>rfl,fun i h3=>by omega,U⟩
 ·rw[Zi2 (k:=0) _ (Xao _) fun _ _ _=>rfl]
  exact ht.evo U hI (Xan _)
 ·intro i h3 _ _ id h4 _
  refine⟨?_,(T.frz (i:=i+1) (Zk9 h ls ops 0) (by omega) n2 fun x y g1 g2 hy g3=>n3 x y hy (by omega) g2 g3).at id⟩
  cases hc:φ id with
  |none=>rfl
  |some l=>
   have:=(hI.live id l hc).2.2
   have:=T.len hG (i:=0) i (Xao _) (by omega)
   omega
end
def Zri (π:List Nat) (n:Nat):Bool:=
 match π with
 | []=>true
 |i::r=>Nat.beq (i::r).length n&&(List.range n).all fun j=>Nat.blt ((i::r).getD j n) n&&Nat.beq (Zdq (i::r) ((i::r).getD j n)) j&&Nat.blt (Zdq (i::r) j) n&&Nat.beq ((i::r).getD (Zdq (i::r) j) n) j
section
variable {P : Program} {Q : Exit → Act → World → Prop} {ops ops' : Array Oper} {π : List Nat}
theorem ZlH (j:Nat) (l:List Nat) (i:Nat):Zdq (j::l) i=bif Nat.beq i j then 0 else Zdq l i+1:=rfl
theorem Ztl: ∀ (l:List Nat) (i:Nat),Zdq l i≤l.length
 | [],_=>Xan _
 |j::l,i=>by
  rw[ZlH]
  cases Nat.beq i j with
  |true=>exact Xao _
  |false=>exact Nat.succ_le_succ (Ztl l i)
theorem Zdx: ∀ {l:List Nat} {i:Nat},Zdq l i<l.length→l[Zdq l i]? =some i
 | [],_,h=>absurd h (Nat.not_lt_zero _)
 |j::l,i,h=>by
  rw[ZlH]at h⊢
  cases C:Nat.beq i j with
  |true=>rw[Xam C];rfl
  |false=>
   rw[C]at h
   simp only[cond_false,Xap]at h⊢
   rw[Xbp]
   exact Zdx (by omega)
theorem ZmV (π:List Nat) (ops:Array Oper): ∀ {l:List Nat},(∀i∈l,i<ops.size)→ ∀j:Nat,(Zhk π ops l)[j]? =(l[j]?).bind fun i=>(ops[i]?).map (ZtV π)
 | [],_,j=>by simp[Zhk]
 |i::l,h,j=>by
  have hi:=h i Xah
  have C:ops[i]? =some ops[i]:=by simp[hi]
  have e:Zhk π ops (i::l)=match ops[i]? with|some o=>ZtV π o::Zhk π ops l|none=>Zhk π ops l:=rfl
  rw[e,C]
  cases j with
  |zero=>simp[C]
  |succ j=>
   simp only[Xbp]
   exact ZmV (l:=l) π ops (fun x I=>h x (Xai _ I)) j
theorem Zpr {π:List Nat}: ∀ {l:List Edge} {e:Edge},e∈Zyu π l↔ ∃d∈l,e=⟨Zdq π d.on,d.ground⟩
 | [],e=>by simp[Zyu]
 |d::l,e=>by
  have h:Zyu π (d::l)=⟨Zdq π d.on,d.ground⟩::Zyu π l:=rfl
  rw[h,Xav,Zpr (l:=l)]
  constructor
  ·rintro(rfl|⟨x,h1,j⟩)
   ·exact⟨d,Xah,rfl⟩
   ·exact⟨x,Xai _ h1,j⟩
  ·rintro⟨x,h1,j⟩
   rcases Xav.1 h1 with rfl|h1
   ·exact .inl j
   ·exact .inr ⟨x,h1,j⟩
structure Reord (ops ops':Array Oper) (π:List Nat):Prop where
 size:ops'.size=ops.size
 len:π.length=ops.size
 at_: ∀i,i<ops.size→Zdq π i<ops.size∧ops'[Zdq π i]? =(ops[i]?).map (ZtV π)
 back: ∀j,j<ops.size→ ∃i,i<ops.size∧Zdq π i=j
theorem ZvE {i:Nat} {r:List Nat} (h:Zri (i::r) ops.size=true):Reord ops (rgo (i::r) ops) (i::r):=by
 obtain⟨π,R⟩: ∃π,i::r=π:=⟨_,rfl⟩
 have h:(Nat.beq (i::r).length ops.size&&(List.range ops.size).all fun j=>Nat.blt ((i::r).getD j ops.size) ops.size&&Nat.beq (Zdq (i::r) ((i::r).getD j ops.size)) j&&Nat.blt (Zdq (i::r) j) ops.size&&Nat.beq ((i::r).getD (Zdq (i::r) j) ops.size) j)=true:=h
 have hr:rgo (i::r) ops=(Zhk (i::r) ops (i::r)).toArray:=rfl
 rw[hr]
 rw[R]at h⊢
 simp only[Xag,Xau,List.mem_range]at h
 obtain⟨U,h2⟩:=h
 have U:=Xam U
 have I: ∀j,j<ops.size→((π.getD j ops.size<ops.size∧Zdq π (π.getD j ops.size)=j)∧Zdq π j<ops.size)∧π.getD (Zdq π j) ops.size=j:=fun j C=>by
  obtain⟨⟨⟨a,b⟩,c⟩,d⟩:=h2 j C
  exact⟨⟨⟨Xal a,Xam b⟩,Xal c⟩,Xam d⟩
 have hm: ∀x∈π,x<ops.size:=by
  intro x J
  obtain⟨j,C,rfl⟩:=List.getElem_of_mem J
  have:=(I j (by omega)).1.1.1
  rw[Xa1,Xac C]at this
  exact this
 have hg:=ZmV (l:=π) π ops hm
 have hlen:(Zhk π ops π).length=ops.size:=by
  apply Nat.le_antisymm
  ·rcases XaO ops.size (Zhk π ops π).length with h|h
   ·have:=hg ops.size
    rw[Xac h,List.getElem?_eq_none (by omega)]at this
    cases this
   ·exact h
  ·rcases XaO (Zhk π ops π).length ops.size with h|h
   ·have h3:=hg (Zhk π ops π).length
    rw[List.getElem?_eq_none (Xan _),Xac (by omega)]at h3
    have h4:=hm _ (Xax (show(Zhk π ops π).length<π.length by omega))
    simp[h4]at h3
   ·exact h
 refine⟨by simpa using hlen,U,fun x J=>⟨(I x J).1.2, ?_⟩,fun j C=>⟨π.getD j ops.size,(I j C).1.1.1,(I j C).1.1.2⟩⟩
 have h3:=(I x J).1.2
 have h4:=Zdx (l:=π) (i:=x) (by omega)
 have h5:=hg (Zdq π x)
 rw[h4,Xab]at h5
 simpa using h5
theorem Zxb (o:Oper) (a:Act) (w:World) (K:Act→World→Prop):(ZtV π o).wp P a w K Q=o.wp P a w K Q:=rfl
theorem Zr0 (o:Oper) (a:Act) (w:World):(ZtV π o).asks P a w=o.asks P a w:=rfl
theorem ZtQ (R:Reord ops ops' π) (g:Nat):(ops'[Zdq π g]?).bind (·.dst)=(ops[g]?).bind (·.dst):=by
 by_cases j:g<ops.size
 ·rw[(R.at_ g j).2]
  have I:ops[g]? =some ops[g]:=by simp[j]
  rw[I];rfl
 ·have J:ops[g]? =none:=by simp;omega
  have U:Zdq π g=π.length:=by
   rcases XaO (Zdq π g) π.length with h|h
   ·obtain⟨i,hi,e⟩:=R.back (Zdq π g) (by rw[←R.len];exact h)
    have e1:=Zdx h
    have C:=Zdx (l:=π) (i:=i) (by rw[e];exact h)
    rw[e,e1]at C
    cases C
    exact absurd hi j
   ·exact Nat.le_antisymm (Ztl π g) h
  rw[J,U,R.len,←R.size]
  simp
theorem ZlN (R:Reord ops ops' π) (o:Oper) (tmps:Array Value):Region.wanted (ZtV π o) (yielded ops' tmps)=Region.wanted o (yielded ops tmps):=by
 cases C:o.guard with
 |none=>
  have:(ZtV π o).guard=none:=by show(match o.guard with|some (j,b)=>some (Zdq π j,b)|none=>none)=none;rw[C]
  simp only[Region.wanted,this,C]
 |some I=>
  obtain⟨j,b⟩:=I
  have:(ZtV π o).guard=some (Zdq π j,b):=by show(match o.guard with|some (j,b)=>some (Zdq π j,b)|none=>none)=_;rw[C]
  have J:=ZtQ R j
  simp only[Region.wanted,this,C,yielded,J]
theorem ZoA {l:Array Bool} {g:Nat} (h:l.size≤g):l.getD g false=false:=by
 rw[Array.getD_eq_getD_getElem?,Array.getElem?_eq_none h];rfl
def Lst (n:Nat) (π:List Nat) (l j:Array Bool):Prop:=l.size=n∧j.size=n∧ ∀i,i<n→j.getD (Zdq π i) false=l.getD i false
theorem Zs2 {n:Nat} {l C:Array Bool} (R:Reord ops ops' π) (j:Lst ops.size π l C) (g:Nat):C.getD (Zdq π g) false=l.getD g false:=by
 by_cases I:g<ops.size
 ·exact j.2.2 g I
 ·have U:l.getD g false=false:=ZoA (by have:=j.1;omega)
  have h2: ¬Zdq π g<ops.size:=by
   intro h
   obtain⟨i,hi,e⟩:=R.back (Zdq π g) h
   have e1:=Zdx (l:=π) (i:=g) (by rw[R.len];exact h)
   have J:=Zdx (l:=π) (i:=i) (by rw[e,R.len];exact h)
   rw[e,e1]at J
   cases J
   exact I hi
  have h3:=j.2.1
  rw[U]
  exact ZoA (by omega)
theorem ZiY {listed:Array Bool} {i:Nat} (U:listed.size=ops.size):i∈Region.ready .any ops listed↔i<ops.size∧listed.getD i false=false∧ ∃o,ops[i]? =some o∧ ∀e∈o.after,Region.binds .any e=true→listed.getD e.on false=true:=by
 unfold Region.ready
 rw[List.mem_filter,List.mem_range]
 constructor
 ·rintro⟨I,j⟩
  have J:ops[i]? =some ops[i]:=by simp[I]
  rw[J]at j
  simp only[Xak,Xby,Xag]at j
  refine⟨I, ?_,_,J,fun e he R=> ?_⟩
  ·have C:=j.1
   have hi:i<listed.size:=by omega
   simpa[hi]using C
  ·have C:=j.2
   rw[Array.all_eq_true']at C
   have:=C e he
   simpa[R]using this
 ·rintro⟨I,j,o,J,C⟩
  refine⟨I, ?_⟩
  rw[J]
  simp only[Xak,Xby,Xag]
  refine⟨?_, ?_⟩
  ·have hi:i<listed.size:=by omega
   simpa[hi]using j
  ·rw[Array.all_eq_true']
   intro e he
   cases R:Region.binds .any e with
   |false=>rfl
   |true=>simpa using C e he R
theorem ZjJ {o:Oper} {e:Edge}:e∈(ZtV π o).after↔ ∃d∈o.after,e=⟨Zdq π d.on,d.ground⟩:=by
 show e∈(Zyu π o.after.toList).toArray↔_
 rw[List.mem_toArray,Zpr]
 simp
theorem ZnG (R:Reord ops ops' π) {l C:Array Bool} (j:Lst ops.size π l C) {i:Nat} (hi:i<ops.size):Zdq π i∈Region.ready .any ops' C↔i∈Region.ready .any ops l:=by
 rw[ZiY (by rw[j.2.1,R.size]),ZiY j.1,R.size]
 have J:=R.at_ i hi
 have U:=j.2.2 i hi
 have ho:ops[i]? =some ops[i]:=by simp[hi]
 rw[J.2,ho,U]
 simp only[Xak,J.1,hi,true_and,Xaf,exists_eq_left']
 refine and_congr_right fun _=> ?_
 constructor
 ·intro h e he I
  have:=h ⟨Zdq π e.on,e.ground⟩ (ZjJ.2 ⟨e,he,rfl⟩) I
  rw[←Zs2 (n:=0) R j e.on];exact this
 ·intro h e he I
  obtain⟨d,hd,rfl⟩:=ZjJ.1 he
  show C.getD (Zdq π d.on) false=true
  rw[Zs2 (n:=0) R j d.on]
  exact h d hd I
theorem Zvj (R:Reord ops ops' π) {i j:Nat} (hi:i<ops.size) (h:Zdq π i=Zdq π j):i=j:=by
 have C:=Zdx (l:=π) (i:=i) (by rw[R.len];exact(R.at_ i hi).1)
 have I:=Zdx (l:=π) (i:=j) (by rw[←h,R.len];exact(R.at_ i hi).1)
 rw[h,I]at C
 exact(XbF C).symm
theorem ZwG (R:Reord ops ops' π) {l I:Array Bool} (C:Lst ops.size π l I) {i:Nat} (hi:i<ops.size):Lst ops.size π (l.setIfInBounds i true) (I.setIfInBounds (Zdq π i) true):=by
 refine⟨by simpa using C.1,by simpa using C.2.1,fun j J=> ?_⟩
 have h1:=C.1
 have h2:=C.2.1
 have U:=C.2.2 j J
 have h4:=(R.at_ i hi).1
 have h5:=(R.at_ j J).1
 by_cases e:i=j
 ·subst e
  simp[show i<l.size by omega,show Zdq π i<I.size by omega]
 ·have e2:Zdq π i≠Zdq π j:=fun h=>e (Zvj R hi h)
  simp only[Array.getD_eq_getD_getElem?,Array.getElem?_setIfInBounds_ne e,Array.getElem?_setIfInBounds_ne e2]at U⊢
  exact U
theorem Zrg (R:Reord ops ops' π) {l C:Array Bool} (I:Lst ops.size π l C):Region.ready .any ops' C=[]↔Region.ready .any ops l=[]:=by
 constructor
 ·intro h
  cases J:Region.ready .any ops l with
  |nil=>rfl
  |cons i r=>
   have hm:i∈Region.ready .any ops l:=by rw[J];exact Xah
   have:=(ZnG R I ((ZiY I.1).1 hm).1).2 hm
   rw[h]at this;cases this
 ·intro h
  cases J:Region.ready .any ops' C with
  |nil=>rfl
  |cons j r=>
   have hm:j∈Region.ready .any ops' C:=by rw[J];exact Xah
   have U:=((ZiY (by rw[I.2.1,R.size])).1 hm).1
   obtain⟨i,hi,rfl⟩:=R.back j (by rw[←R.size];exact U)
   have:=(ZnG R I hi).1 hm
   rw[h]at this;cases this
theorem ZjF (R:Reord ops ops' π): ∀ (fuel:Nat) (l J:Array Bool) (a:Act) (w:World),Lst ops.size π l J→wpAny P .any ops' Q fuel J a w→wpAny P .any ops Q fuel l a w
 |0,l,J,a,w,I,h=>⟨(Zrg R I).1 h.1,h.2⟩
 |fuel+1,l,J,a,w,I,h=>by
  refine⟨fun hr=>h.1 ((Zrg R I).2 hr),fun i hi=> ?_⟩
  have j:=((ZiY I.1).1 hi).1
  have C:=h.2 (Zdq π i) ((ZnG R I j).2 hi)
  have U:ops[i]? =some ops[i]:=by simp[j]
  unfold wpOp at C⊢
  rw[(R.at_ i j).2,U]at C
  rw[U]
  simp only[Xak]at C⊢
  rw[ZlN R,Zxb,Zr0]at C
  have hd:(ZtV π ops[i]).dst=ops[i].dst:=rfl
  rw[hd]at C
  have ih:=fun a w=>ZjF R fuel (l.setIfInBounds i true) (J.setIfInBounds (Zdq π i) true) a w (ZwG R I j)
  split at C
  ·rename_i hw
   rw[if_pos hw]
   exact C.imp (Oper.wp_mono fun a w=>ih a w) id
  ·rename_i hw
   rw[if_neg hw]
   exact ih _ _ C
theorem Zrx {a:Act} {w:World} (hp:Zri π ops.size=true) (h:wpAny P .any (rgo π ops) Q (rgo π ops).size (Array.replicate (rgo π ops).size false) a w):wpAny P .any ops Q ops.size (Array.replicate ops.size false) a w:=by
 cases π with
 |nil=>exact h
 |cons i r=>
  have R:=ZvE hp
  rw[R.size]at h
  refine ZjF R _ _ _ a w ⟨by simp,by simp,fun j C=> ?_⟩ h
  have:=(R.at_ j C).1
  simp[C,this]
end
variable [Laid]
open Go.RowKit
def Zbk (h:Hints) (fid:Nat):Code→Bool
 | .region id ops draw=>bif draw then Zf4 h (h.light fid id) (rgo (h.perm fid id) ops)&&Zri (h.perm fid id) ops.size else(h.light fid id).isEmpty&&(h.perm fid id).isEmpty
 | .seq a b=>Zbk h fid a&&Zbk h fid b
 | .cond _ a b=>Zbk h fid a&&Zbk h fid b
 | .block _ b=>Zbk h fid b
 | .loop b=>Zbk h fid b
 |_=>true
def Zkw (P:Program) (h:Hints) (f:Nat):Bool:=
 match P.funcs[f]? with
 |some fn=>match fn.body with
  |some c=> !(fn.name== "runtime.NumGoroutine")&&Zbk h f c
  |none=>false
 |none=>false
structure Static (P:Program) (h:Hints):Prop where
 mixed:P.follows .mixedOrders=true
 fns: ∀f,h.ok f=true→Zkw P h f=true
 prims: ∀f,(h.prim f).isSome=true→Zwv P f
section
variable {P : Program} {h : Hints} {E : Ev}
theorem ZdB (N:Nat) (ops:Array Oper): ∀ (l:List Oper) (i:Nat) (s:St),Zbd P h E N ops [] l i [] s=Zeh P h E N ops l s
 | [],_,_=>rfl
 |o::l,i,s=>by
  show(Zci P h E N ops [] i o s).bind (fun j=>(Zdp P h E (Zb9 h o []) j.hp).bind fun _=>Zbd P h E N ops [] l (i+1) (Zb9 h o []) j)=(ZcV P h E N ops o s).bind fun s=>Zeh P h E N ops l s
  have:Zci P h E N ops [] i o s=ZcV P h E N ops o s:=rfl
  rw[this]
  congr 1
  funext s
  show(Zdp P h E (Zb9 h o []) s.hp).bind (fun _=>Zbd P h E N ops [] l (i+1) (Zb9 h o []) s)=_
  rw[Zs3]
  exact ZdB N ops l (i+1) s
theorem ZdE (I:Good P h E) {N:Nat} {ops:Array Oper} {ls:List Nat}: ∀ (l:List Oper) (i:Nat) (acc:List (Nat×Oper×List (Nat×PV)×PV)) (s j:St),Zbd P h E N ops ls l i acc s=some j→s.hp.length≤j.hp.length
 | [],_,_,s,j,h=>by cases h;exact Xan _
 |o::l,i,acc,s,j,h=>by
  obtain⟨s1,J,C⟩:=ZeZ h
  have R:s1.hp.length≤j.hp.length:=by
   rcases C with⟨_,_,_,C⟩|⟨_,_,C⟩
   ·exact ZdE I l (i+1) _ s1 j C
   ·exact ZdE I l (i+1) _ s1 j C
  refine XaM ?_ R
  obtain⟨v,U⟩:=Zo5 J
  rcases U.kind with⟨_,_,e⟩|⟨_,_,_,e⟩|⟨_,_,e⟩
  ·rw[e];exact Xan _
  ·rw[e];exact Xan _
  ·exact Zn3 I e
def Hyp (c:Cx) (s:St) (e:Ex) (j:St) (R:(Exit→Act→World→Prop)→Act→World→Prop):Prop:=
 ∀φ S w a B,Inv φ s.hp w S B→TRel φ w S c.N s.tm a→c.base≤s.hp.length→ ∀Q:Exit→Act→World→Prop,
 (∀C w' φ' S',Inv φ' j.hp w' S' B→Evo c.base B φ S w φ' S' w'→TRel φ' w' S' c.N j.tm C→c.base≤j.hp.length→Q (conv e) C w')→R Q a w
def Zky (P:Program) (h:Hints) (E:Ev):Prop:= ∀ (c:Cx) (code:Code) (s:St) (e:Ex) (j:St),E.ex c code s=some (e,j)→Zbk h c.fid code=true→
 Hyp c s e j (fun Q a w=>code.wp P Q a w)∧ ∀b,code= .loop b→ ∃r,Hyp c s e j fun Q a w=>Code.rounds P b Q r a w
theorem Zmv (hS:Static P h) (hG:Good P h E) {c:Cx} {id:Nat} {ops:Array Oper} {draw:Bool} {s J:St} (I:Zps P h E c.N (h.light c.fid id) (rgo (h.perm c.fid id) ops) s=some J)
 (C:Zbk h c.fid (.region id ops draw)=true) {φ:Phi} {S:Nat→Prop} {w:World} {a:Act} {B:Nat} (hI:Inv φ s.hp w S B) (ht:TRel φ w S c.N s.tm a) (hb:c.base≤s.hp.length) {Q:Exit→Act→World→Prop}
 (hQ: ∀U w' φ' S',Inv φ' J.hp w' S' B→Evo c.base B φ S w φ' S' w'→TRel φ' w' S' c.N J.tm U→c.base≤J.hp.length→Q .normal U w'):(Code.region id ops draw).wp P Q a w:=by
 have j:Zbd P h E c.N (rgo (h.perm c.fid id) ops) (h.light c.fid id) (rgo (h.perm c.fid id) ops).toList 0 [] s=some J:=by
  unfold Zps at I
  split at I
  ·rename_i hl;rw[hl,ZdB];exact I
  ·exact I
 have hlen:=ZdE hG _ _ _ _ _ j
 cases draw with
 |true=>
  simp only[Zbk,cond_true,Xag]at C
  apply wp_region_any hS.mixed
  refine Zrx C.2 ?_
  have R:Below w.heap.size w {w with drawn:=w.drawn+1}:=⟨rfl,rfl,rfl,Xan _,fun _ _=>rfl⟩
  obtain⟨h1,h2⟩:=hI.foreign R
  refine Zw7 hG C.1 j h1 (ht.evo h2 hI (Xan _)) ?_
  intro U w' φ' S' h3 h4 h5
  exact hQ U w' φ' S' h3 ((h2.mono hb).trans (h4.mono hb)) h5 (by omega)
 |false=>
  simp only[Zbk,cond_false,Xag,XbN]at C
  rw[C.1,C.2,ZdB]at j
  apply wp_region
  exact Zkm hG c.base ops.toList 0 s J φ S a w rfl j hI ht hb hQ
theorem ZwB (hS:Static P h) (hG:Good P h E) (hX:Zky P h E):Zky P h (step P h E):=by
 intro c code s e s' C J
 cases code with
 |loop b=>
  simp only[step]at C
  have aa:Zbk h c.fid b=true:=by simpa only[Zbk]using J
  obtain⟨s0,h0,C⟩:=Zak C
  obtain⟨⟨e1,s1⟩,h1,U⟩:=Zak C
  have main: ∃r,Hyp c s e s' fun Q a w=>Code.rounds P b Q r a w:=by
   cases e1 with
   |normal=>
    simp only[]at U
    obtain⟨r,hr⟩:=(hX c (.loop b) s1 e s' U J).2 b rfl
    refine⟨r+1, ?_⟩
    intro φ S w a B hI R hb Q hQ
    obtain⟨φ0,ab,ad,ae,af⟩:=Zeq h0 hI R hb
    refine(hX c b s0 _ s1 h1 aa).1 φ0 S w a B ab ad ae _ ?_
    intro a1 w1 I S1 h3 h4 h5 h6
    simp only[conv,Exit.then]
    refine hr I S1 w1 a1 B h3 h5 h6 Q ?_
    intro a2 w2 ag S2 h7 h8 h9 ah
    exact hQ a2 w2 ag S2 h7 ((af.trans h4).trans h8) h9 ah
   |exit id=>
    simp only[Xaf,Prod.mk.injEq]at U
    obtain⟨rfl,rfl⟩:=U
    refine⟨1, ?_⟩
    intro φ S w a B hI R hb Q hQ
    obtain⟨φ0,ab,ad,ae,af⟩:=Zeq h0 hI R hb
    exact(hX c b s0 _ s1 h1 aa).1 φ0 S w a B ab ad ae _ fun a1 w1 I S1 h3 h4 h5 h6=>hQ a1 w1 I S1 h3 (af.trans h4) h5 h6
   |ret=>
    simp only[Xaf,Prod.mk.injEq]at U
    obtain⟨rfl,rfl⟩:=U
    refine⟨1, ?_⟩
    intro φ S w a B hI R hb Q hQ
    obtain⟨φ0,ab,ad,ae,af⟩:=Zeq h0 hI R hb
    exact(hX c b s0 _ s1 h1 aa).1 φ0 S w a B ab ad ae _ fun a1 w1 I S1 h3 h4 h5 h6=>hQ a1 w1 I S1 h3 (af.trans h4) h5 h6
  obtain⟨r,hr⟩:=main
  exact⟨fun φ S w a B hI R hb Q hQ=>wp_loop_rounds r (hr φ S w a B hI R hb Q hQ),fun b' ai=>by cases ai;exact⟨r,hr⟩⟩
 |skip=>
  refine⟨?_,by simp⟩
  intro φ S w a B hI R hb Q hQ
  simp only[step,Xaf,Prod.mk.injEq]at C
  obtain⟨rfl,rfl⟩:=C
  exact wp_skip (hQ a w φ S hI (Evo.refl _ _ _ _ _) R hb)
 |label l=>
  refine⟨?_,by simp⟩
  intro φ S w a B hI R hb Q hQ
  simp only[step,Xaf,Prod.mk.injEq]at C
  obtain⟨rfl,rfl⟩:=C
  exact wp_label (hQ a w φ S hI (Evo.refl _ _ _ _ _) R hb)
 |exit id=>
  refine⟨?_,by simp⟩
  intro φ S w a B hI R hb Q hQ
  simp only[step,Xaf,Prod.mk.injEq]at C
  obtain⟨rfl,rfl⟩:=C
  exact wp_exit (hQ a w φ S hI (Evo.refl _ _ _ _ _) R hb)
 |ret=>
  refine⟨?_,by simp⟩
  intro φ S w a B hI R hb Q hQ
  simp only[step,Xaf,Prod.mk.injEq]at C
  obtain⟨rfl,rfl⟩:=C
  exact wp_ret (hQ a w φ S hI (Evo.refl _ _ _ _ _) R hb)
 |region id ops draw=>
  refine⟨?_,by simp⟩
  intro φ S w a B hI R hb Q hQ
  simp only[step]at C
  cases hr:Zps P h E c.N (h.light c.fid id) (rgo (h.perm c.fid id) ops) s with
  |none=>rw[hr]at C;simp at C
  |some s1=>
   rw[hr]at C
   simp only[Xak,Xaf,Prod.mk.injEq]at C
   obtain⟨rfl,rfl⟩:=C
   exact Zmv hS hG hr J hI R hb hQ
 |seq x y=>
  refine⟨?_,by simp⟩
  intro φ S w a B hI R hb Q hQ
  simp only[step]at C
  simp only[Zbk,Xag]at J
  obtain⟨⟨e1,s1⟩,h1,U⟩:=Zak C
  refine wp_seq ?_
  cases e1 with
  |normal=>
   simp only[]at U
   refine(hX c x s _ s1 h1 J.1).1 φ S w a B hI R hb _ ?_
   intro a1 w1 I S1 h3 h4 h5 h6
   simp only[conv,Exit.then]
   refine(hX c y s1 e s' U J.2).1 I S1 w1 a1 B h3 h5 h6 Q ?_
   intro a2 w2 ag S2 h7 h8 h9 ah
   exact hQ a2 w2 ag S2 h7 (h4.trans h8) h9 ah
  |exit id=>
   simp only[Xaf,Prod.mk.injEq]at U
   obtain⟨rfl,rfl⟩:=U
   exact(hX c x s _ s1 h1 J.1).1 φ S w a B hI R hb _ fun a1 w1 I S1 h3 h4 h5 h6=>hQ a1 w1 I S1 h3 h4 h5 h6
  |ret=>
   simp only[Xaf,Prod.mk.injEq]at U
   obtain⟨rfl,rfl⟩:=U
   exact(hX c x s _ s1 h1 J.1).1 φ S w a B hI R hb _ fun a1 w1 I S1 h3 h4 h5 h6=>hQ a1 w1 I S1 h3 h4 h5 h6
 |cond x y z=>
  refine⟨?_,by simp⟩
  intro φ S w a B hI R hb Q hQ
  simp only[step]at C
  simp only[Zbk,Xag]at J
  obtain⟨v,h1,U⟩:=Zak C
  cases v<;>simp only[]at U<;>try (cases U;done)
  rename_i t
  have hv:=ZaA R h1
  simp only[VRel]at hv
  refine wp_cond hv ?_
  refine(hX c _ s e s' U ?_).1 φ S w a B hI R hb Q hQ
  cases t
  ·exact J.2
  ·exact J.1
 |block id b=>
  refine⟨?_,by simp⟩
  intro φ S w a B hI R hb Q hQ
  simp only[step]at C
  simp only[Zbk]at J
  obtain⟨⟨e1,s1⟩,h1,U⟩:=Zak C
  refine wp_block ?_
  refine(hX c b s _ s1 h1 J).1 φ S w a B hI R hb _ ?_
  intro a1 w1 I S1 h3 h4 h5 h6
  have out:(ZeI (h.keepB c.fid id) c s1).map (fun aj=>(Ex.normal,aj))=some (e,s')→Q .normal a1 w1:=by
   intro hx
   cases hm:ZeI (h.keepB c.fid id) c s1 with
   |none=>simp[hm]at hx
   |some s2=>
    simp only[hm,Xak,Xaf,Prod.mk.injEq]at hx
    obtain⟨rfl,rfl⟩:=hx
    obtain⟨ag,g1,g2,g3,g4⟩:=Zeq hm h3 h5 h6
    exact hQ a1 w1 ag S1 g1 (h4.trans g4) g2 g3
  cases e1 with
  |normal=>exact out U
  |ret=>
   simp only[Xaf,Prod.mk.injEq]at U
   obtain⟨rfl,rfl⟩:=U
   exact hQ a1 w1 I S1 h3 h4 h5 h6
  |exit j=>
   simp only[conv,Exit.inBlock]
   by_cases hj:j=id
   ·simp only[if_pos hj]at U⊢
    exact out U
   ·simp only[if_neg hj,Xaf,Prod.mk.injEq]at U⊢
    obtain⟨rfl,rfl⟩:=U
    exact hQ a1 w1 I S1 h3 h4 h5 h6
 |_=>simp[step]at C
theorem Zob {l:List PV} {vs:Array Value} {φ:Phi} {w:World} {S:Nat→Prop} (j:VL φ w S l vs.toList):VRel φ w S (Zbw l) (if h:vs.size=1 then vs[0]else .tuple vs):=by
 have hlen:=VL.length j
 match l,j with
 | [],j=>
  simp only[Zbw,VRel]
  have:vs.size=0:=by simpa using hlen
  rw[dif_neg (by omega)]
  exact⟨vs,rfl,j⟩
 | [p],j=>
  simp only[VL]at j
  obtain⟨v,r,C,I,rfl⟩:=j
  have:vs= #[v]:=by apply Array.ext';simpa using C
  subst this
  simpa[Zbw]using I
 |p::q::r,j=>
  simp only[Zbw,VRel]
  have:vs.size=r.length+2:=by simpa using hlen
  rw[dif_neg (by omega)]
  exact⟨vs,rfl,j⟩
def Zub (tmps:Array Value):ResultVar→Sem Value
 | .tmp t=>pure (tmps.getD t undef)
 | .cell a t=>do loadVar t (←asAddr (tmps.getD a undef))
theorem Zql (fn:Func) (tmps:Array Value):results fn tmps=(do let vs ←fn.results.mapM (Zub tmps);pure (if h:vs.size=1 then vs[0]else .tuple vs)):=rfl
theorem Zgd {fn:Func} {tm:List (Nat×PV)} {H:List Mem} {vs:List PV} {φ:Phi} {S:Nat→Prop} {w:World} {B N:Nat} {a:Act} (hr:ZaV (ZiM P tm H) fn.results.toList=some vs) (hI:Inv φ H w S B) (ht:TRel φ w S N tm a):
 ∃u,(results fn a.tmps).run P w= .ok u w∧VRel φ w S (Zbw vs) u:=by
 have gen: ∀ (l:List ResultVar) (vs:List PV),ZaV (ZiM P tm H) l=some vs→
  ∃us,(l.mapM (Zub a.tmps)).run P w= .ok us w∧VL φ w S vs us:=by
  intro l
  induction l with
  |nil=>intro vs h;simp[Zb6]at h;subst h;exact⟨[],by simp,by simp only[VL]⟩
  |cons x l ih=>
   intro vs h
   obtain⟨p,ps,C,J,rfl⟩:=ZaD h
   obtain⟨us,h3,h4⟩:=ih ps J
   cases x with
   |tmp t=>
    have:=(ht.2.2 t p C).2
    refine⟨a.tmps.getD t undef::us, ?_,_,us,rfl,this,h4⟩
    rw[List.mapM_cons]
    simp only[Zub,Sem.run_bind,Sem.run_pure,Result.andThen_ok,h3]
   |cell x t=>
    simp only[ZiM]at C
    obtain⟨q,h5,R⟩:=Zak C
    have j:=(ht.2.2 x q h5).2
    obtain⟨u,h7,h8⟩:=ZhH hI R j
    refine⟨u::us, ?_,u,us,rfl,h8,h4⟩
    have: ∃U,a.tmps.getD x undef= .pointer (some U):=by
     cases q<;>simp only[ZbF]at R<;>try (cases R;done)
     ·simp only[VRel]at j;obtain⟨l,_,j⟩:=j;exact⟨_,j⟩
     ·simp only[VRel,IRel]at j;obtain⟨b,o,j,_⟩:=j;exact⟨_,j⟩
    obtain⟨U,I⟩:=this
    rw[I]at h7
    have h9:(loadVar t U).run P w= .ok u w:=by simpa[Instr.loadAt,Instr.sureAddr]using h7
    rw[List.mapM_cons]
    simp only[Zub,I,asAddr,Sem.run_bind,Sem.run_pure,Result.andThen_ok,h9,h3]
 obtain⟨us,C,J⟩:=gen _ _ hr
 refine⟨if h:us.toArray.size=1 then us.toArray[0]else .tuple us.toArray, ?_,Zob (by simpa using J)⟩
 rw[Zql,Array.mapM_eq_mapM_toList]
 simp only[Sem.run_bind,Sem.run_pure,Result.andThen_ok,Sem.run_map,C]
theorem Znb {f:FuncId} {args:List PV} {H H':List Mem} {v:PV} (j:(step P h E).rn f args H=some (v,H')):
 ∃fn code e s vs,h.ok f=true∧P.funcs[f]? =some fn∧fn.body=some code∧args.length≤fn.ntmps∧E.ex ⟨f,H.length,fn.ntmps⟩ code ⟨Zbq 0 args,H⟩=some (e,s)∧(e= .normal∨e= .ret)∧
  ZaV (ZiM P s.tm s.hp) fn.results.toList=some vs∧v=Zbw vs∧H'=s.hp:=by
 simp only[step]at j
 obtain⟨I,j⟩:=Zar j
 split at j
 ·rename_i fn hf
  split at j
  ·rename_i code hb
   obtain⟨hn,j⟩:=Zar j
   obtain⟨⟨e,s⟩,h1,j⟩:=Zak j
   have C: ∀ {x:Option (List PV)},x.map (fun vs=>(Zbw vs,s.hp))=some (v,H')→ ∃vs,x=some vs∧v=Zbw vs∧H'=s.hp:=by
    intro x J
    cases x with
    |none=>simp at J
    |some vs=>simp at J;exact⟨vs,rfl,J.1.symm,J.2.symm⟩
   cases e with
   |exit id=>cases j
   |normal=>
    obtain⟨vs,R,U,h4⟩:=C j
    exact⟨fn,code,_,s,vs,I,hf,hb,hn,h1, .inl rfl,R,U,h4⟩
   |ret=>
    obtain⟨vs,R,U,h4⟩:=C j
    exact⟨fn,code,_,s,vs,I,hf,hb,hn,h1, .inr rfl,R,U,h4⟩
  ·cases j
 ·cases j
def Zw2 (E:Ev):Prop:= ∀ (c:Cx) (code:Code) (s:St) (e:Ex) (j:St),E.ex c code s=some (e,j)→c.base≤s.hp.length→c.base≤j.hp.length
theorem ZmY {k:Option (List Nat×Bool)} {c:Cx} {s st:St} (j:ZeI k c s=some st) (C:c.base≤s.hp.length):c.base≤st.hp.length:=by
 unfold ZeI at j
 split at j
 ·cases j;exact C
 ·rename_i ks comp
  cases comp with
  |true=>
   simp only[if_true]at j
   obtain⟨I,_⟩:=Zar j
   omega
  |false=>
   simp only[XaG,if_false,Xaf]at j
   subst j;exact C
theorem ZpW (hG:Good P h E) (U:Zw2 E):Zw2 (step P h E):=by
 intro c code s e s' C R
 cases code with
 |skip=>simp only[step,Xaf,Prod.mk.injEq]at C;rw[←C.2];exact R
 |label l=>simp only[step,Xaf,Prod.mk.injEq]at C;rw[←C.2];exact R
 |exit id=>simp only[step,Xaf,Prod.mk.injEq]at C;rw[←C.2];exact R
 |ret=>simp only[step,Xaf,Prod.mk.injEq]at C;rw[←C.2];exact R
 |region id ops draw=>
  simp only[step]at C
  cases hr:Zps P h E c.N (h.light c.fid id) (rgo (h.perm c.fid id) ops) s with
  |none=>rw[hr]at C;simp at C
  |some s1=>
   rw[hr]at C
   simp only[Xak,Xaf,Prod.mk.injEq]at C
   rw[←C.2]
   have aa:Zbd P h E c.N (rgo (h.perm c.fid id) ops) (h.light c.fid id) (rgo (h.perm c.fid id) ops).toList 0 [] s=some s1:=by
    unfold Zps at hr
    split at hr
    ·rename_i hl;rw[hl,ZdB];exact hr
    ·exact hr
   exact XaM R (ZdE hG _ _ _ _ _ aa)
 |seq x y=>
  simp only[step]at C
  obtain⟨⟨e1,s1⟩,h1,I⟩:=Zak C
  have J:=U _ _ _ _ _ h1 R
  cases e1 with
  |normal=>exact U _ _ _ _ _ I J
  |exit id=>simp only[Xaf,Prod.mk.injEq]at I;rw[←I.2];exact J
  |ret=>simp only[Xaf,Prod.mk.injEq]at I;rw[←I.2];exact J
 |cond x y z=>
  simp only[step]at C
  obtain⟨v,h1,I⟩:=Zak C
  cases v<;>simp only[]at I<;>try (cases I;done)
  exact U _ _ _ _ _ I R
 |block id b=>
  simp only[step]at C
  obtain⟨⟨e1,s1⟩,h1,I⟩:=Zak C
  have J:=U _ _ _ _ _ h1 R
  have out:(ZeI (h.keepB c.fid id) c s1).map (fun ab=>(Ex.normal,ab))=some (e,s')→c.base≤s'.hp.length:=by
   intro hx
   cases hm:ZeI (h.keepB c.fid id) c s1 with
   |none=>simp[hm]at hx
   |some s2=>
    simp only[hm,Xak,Xaf,Prod.mk.injEq]at hx
    obtain⟨rfl,rfl⟩:=hx
    exact ZmY hm J
  cases e1 with
  |normal=>exact out I
  |ret=>simp only[Xaf,Prod.mk.injEq]at I;rw[←I.2];exact J
  |exit j=>
   simp only[]at I
   split at I
   ·exact out I
   ·simp only[Xaf,Prod.mk.injEq]at I;rw[←I.2];exact J
 |loop b=>
  simp only[step]at C
  obtain⟨s0,h0,C⟩:=Zak C
  obtain⟨⟨e1,s1⟩,h1,I⟩:=Zak C
  have ad:c.base≤s0.hp.length:=ZmY h0 R
  have J:=U _ _ _ _ _ h1 ad
  cases e1 with
  |normal=>exact U _ _ _ _ _ I J
  |exit id=>simp only[Xaf,Prod.mk.injEq]at I;rw[←I.2];exact J
  |ret=>simp only[Xaf,Prod.mk.injEq]at I;rw[←I.2];exact J
 |_=>simp[step]at C
theorem ZuS {f:FuncId} (j:Zkw P h f=true):Zwv P f:=by
 unfold Zkw at j
 split at j
 ·rename_i fn C
  split at j
  ·rename_i c I
   simp only[Xag,Bool.not_eq_true']at j
   exact⟨fn,C,by simp[I],j.1⟩
  ·cases j
 ·cases j
theorem Zqv {f:FuncId} {fn:Func} {c:Code} (j:Zkw P h f=true) (C:P.funcs[f]? =some fn) (I:fn.body=some c):Zbk h f c=true:=by
 unfold Zkw at j
 simp only[C,I,Xag]at j
 exact j.2
theorem Zyc (hS:Static P h) (hX:Zky P h E):Zoi P (step P h E):=by
 intro f args H v H' hr φ S w B vals hI U
 obtain⟨fn,code,e,s,vs,R,hf,hb,hn,h1,h2,h3,rfl,rfl⟩:=Znb hr
 apply calls_of_wp hf hb
 have aa:=VL.length U
 refine(hX _ code _ e s h1 (Zqv (hS.fns f R) hf hb)).1 φ S w _ B hI ?_ (Xan _) _ ?_
 ·refine⟨by simp;omega,rfl, ?_⟩
  intro i p hp
  obtain⟨_,C⟩:=Zfn args 0 i p hp
  simp only[Nat.sub_zero]at C
  obtain⟨u,I,J⟩:=VL.get U C
  have hi:=(Xae.1 I).1
  refine⟨by show i<fn.ntmps;omega, ?_⟩
  have:(vals.toArray++Array.replicate (fn.ntmps-vals.toArray.size) undef).getD i undef=u:=by
   rw[Array.getD_eq_getD_getElem?,Array.getElem?_append_left (by simpa using hi)]
   simp[I]
  rw[this];exact J
 ·intro a' w' φ' S' C I J _
  obtain⟨u,h8,h9⟩:=Zgd (P:=P) h3 C J
  have j:a'.defers=[]∧ ∃v,(results fn a'.tmps).run P w'= .ok v w'∧ZxQ s.hp H.length B φ S w (Zbw vs) (.returned v) w':=
   ⟨J.2.1,u,h8,u,φ',S',rfl,C,I,h9⟩
  rcases h2 with rfl|rfl
  ·exact j
  ·exact j
theorem ZfO (I:Static P h) (R:Zck P h): ∀n,Good P h (Zdb P h n)∧Zky P h (Zdb P h n)∧Zw2 (Zdb P h n)
 |0=>⟨⟨fun f args H v H' j=>(by cases j),R,fun f args H v H' j=>(by cases j),fun f U=>U.elim (fun⟨_,_,_,j⟩=>(by cases j)) (I.prims f)⟩,
   fun c code s e s' C=>(by cases C),fun c code s e s' C=>by cases C⟩
 |n+1=>by
  obtain⟨h1,h2,h3⟩:=ZfO I R n
  refine⟨⟨Zyc I h2,R, ?_, ?_⟩,ZwB I h1 h2,ZpW h1 h3⟩
  ·intro f args H v H' j
   obtain⟨fn,code,e,s,vs,J,U,hb,hn,h4,h5,h6,rfl,rfl⟩:=Znb j
   exact h3 _ _ _ _ _ h4 (Xan _)
  ·rintro f (⟨args,H,⟨v,H'⟩,j⟩|hp)
   ·obtain⟨fn,code,e,s,vs,J,_⟩:=Znb j
    exact ZuS (I.fns f J)
   ·exact I.prims f hp
end
variable [Laid]
open Go.RowKit
inductive Ty where
 |bool
 |int (k:IntKind)
 |str
 |slice (e:Ty) (bytes:Nat)
 |agg (ps:List Ty)
 deriving Inhabited
mutual
def ZbD:Ty→List PV→Prop
 | .bool,cs=> ∃b,cs=[.bool b]
 | .int k,cs=> ∃n,cs=[.int k n]∧(Lit.int k n).wf=true
 | .str,cs=> ∃s,cs=[.str s]∧s.size≤reachBytes
 | .slice e bytes,cs=>cs=[.nils]∨ ∃es,cs=[.lst es]∧es.length≤maxLen∧es.length*bytes≤reachBytes∧ ∀c∈es,ZbD e c
 | .agg ps,cs=>HasTys ps cs
def HasTys:List Ty→List PV→Prop
 | [],cs=>cs=[]
 |p::ps,cs=> ∃a b,cs=a++b∧ZbD p a∧HasTys ps b
end
def Zgl (P:Program) (j:Nat) (rec:TypeId→Option Ty):List (Nat×TypeId)→Nat→Option (List Ty)
 | [],off=>if off=j then some []else none
 |(o,t)::r,off=>if o=off then(rec t).bind fun x=>(Zgl P j rec r (off+P.cellsOf t)).map (x:: ·)else none
def Zki (P:Program) (t:TypeId):Option (List (Nat×TypeId)):=
 match P.underlying t with
 |some (.struct j)=>some (j.toList.map fun f=>(f.offset,f.type))
 |some (.array n e)=>some ((List.range n).map fun i=>(i*P.cellsOf e,e))
 |_=>none
def ZmD (P:Program):Nat→TypeId→Option Ty
 |0,_=>none
 |n+1,t=>match P.underlying t with
  |some .bool=>some .bool
  |some (.int k)=>some (.int k)
  |some .string=>some .str
  |some (.slice e)=>(ZmD P n e).bind fun x=>if 0<P.cellsOf e then some (.slice x (P.bytesOf e))else none
  |_=>(Zki P t).bind fun j=>(Zgl P (P.cellsOf t) (ZmD P n) j 0).map .agg
section
variable {H : Type} {enc : TypeId × Value → H} {P : Program} {w : World} {S : Nat → Prop}
theorem Zih: ∀ {l m:List PV} {vs us:List Value},LRel w S l vs→LRel w S m us→LRel w S (l++m) (vs++us)
 | [],_,_,_,h,j=>by simp only[LRel]at h;subst h;simpa using j
 |p::ps,_,_,_,h,j=>by
  simp only[LRel]at h
  obtain⟨v,r,rfl,C,I⟩:=h
  show LRel w S (p::(ps++_)) (v::(r++_))
  simp only[LRel]
  exact⟨v,_,rfl,C,Zih I j⟩
theorem ZfS: ∀ {l:List PV} {vs:List Value},LRel w S l vs→l.length=vs.length
 | [],_,h=>by simp only[LRel]at h;subst h;rfl
 |p::ps,_,h=>by
  simp only[LRel]at h
  obtain⟨v,r,rfl,_,j⟩:=h
  simp[ZfS j]
theorem ZoU: ∀ {l:List PV} {vs:List Value} {b o:Nat},LRel w S l vs→(∀c∈l,Zcr c=true)→(∀ (j:Nat) (v:Value),vs[j]? =some v→w.cell? ⟨b,o+j,none⟩=some v)→CsRel w S l b o
 | [],_,_,_,_,_,_=>by simp only[CsRel]
 |p::ps,vs,b,o,h,C,I=>by
  simp only[LRel]at h
  obtain⟨v,r,rfl,J,R⟩:=h
  simp only[CsRel]
  exact⟨⟨C p Xah,v,by simpa using I 0 v rfl,J⟩,ZoU R (fun c hm=>C c (Xai _ hm)) fun j u U=>by rw[←I (j+1) u (by simpa using U)];congr 2;omega⟩
theorem ZoN {z:Nat}: ∀ {l:List (List PV)} {b o:Nat},(∀c∈l,c.length=z)→(∀ (i:Nat) (c:List PV),l[i]? =some c→CsRel w S c b (o+i*z))→EsRel w S l b o
 | [],_,_,_,_=>by simp only[EsRel]
 |c::cs,b,o,C,h=>by
  simp only[EsRel]
  refine⟨by simpa using h 0 c rfl,ZoN (fun x j=>C x (Xai _ j)) fun i x j=> ?_⟩
  have I:=h (i+1) x (by simpa using j)
  rw[show o+c.length+i*z=o+(i+1)*z from by rw[C c Xah,Xa4];omega]
  exact I
def Lim (P:Program) (t:TypeId) (d:DataW H):Prop:= ∀n∈d.weights P t,n≤reachBytes
theorem ZfF: ∀ {ds:List (DataW H)} {e:TypeId} {d:DataW H},d∈ds→ ∀n∈d.weights P e,n∈DataW.weightsAll P e ds
 |x::ds,e,d,hd,n,j=>by
  simp only[DataW.weightsAll,XaA]
  rcases Xav.1 hd with rfl|hd
  ·exact .inl j
  ·exact .inr (ZfF hd n j)
def Got (w:World) (ty:Ty) (cs:List Value):Prop:= ∃j,ZbD ty j∧LRel w (fun b=>b<w.heap.size) j cs∧ ∀q∈j,Zcr q=true
theorem ZkK {α:Type} (rec:TypeId→Option Ty) (f:TypeId→List Value→Option (DataW H×List MemPlace)) (C: ∀t ty,rec t=some ty→ ∀cs d ps,f t cs=some (d,ps)→(∀x∈ps,x.block<w.heap.size)→Lim P t d→Got w ty cs) (cs:List Value) (g:α→Nat×TypeId):
 ∀ (l:List α) (off:Nat) (tys:List Ty) (xs:List (DataW H×List MemPlace)),Zgl P cs.length rec (l.map g) off=some tys→l.mapM (fun x=>f (g x).2 ((cs.drop (g x).1).take (P.cellsOf (g x).2)))=some xs→
   (∀x∈xs,∀p∈x.2,p.block<w.heap.size)→(∀ (i:Nat) (a:α) (x:DataW H×List MemPlace),l[i]? =some a→xs[i]? =some x→Lim P (g a).2 x.1)→
   ∃U,HasTys tys U∧LRel w (fun b=>b<w.heap.size) U (cs.drop off)∧ ∀q∈U,Zcr q=true
 | [],off,tys,xs,j,hm,_,_=>by
  simp only[Xa3,Zgl]at j
  obtain⟨ho,j⟩:=Zar j
  cases j
  exact⟨[],by simp only[HasTys],by rw[ho];simp[LRel],by simp⟩
 |a::l,off,tys,xs,j,hm,hp,hl=>by
  simp only[Xbb]at j
  rw[show g a=((g a).1,(g a).2)from rfl]at j
  simp only[Zgl]at j
  obtain⟨ho,j⟩:=Zar j
  obtain⟨ty,h1,j⟩:=Zak j
  cases hr:Zgl P cs.length rec (l.map g) (off+P.cellsOf (g a).2)with
  |none=>simp[hr]at j
  |some R=>
   simp only[hr,Xak,Xaf]at j
   subst j
   rw[List.mapM_cons]at hm
   cases I:f (g a).2 ((cs.drop (g a).1).take (P.cellsOf (g a).2))with
   |none=>rw[I]at hm;simp at hm
   |some x=>
    rw[I]at hm
    cases J:l.mapM (fun x=>f (g x).2 ((cs.drop (g x).1).take (P.cellsOf (g x).2)))with
    |none=>rw[J]at hm;simp at hm
    |some aa=>
     rw[J]at hm
     simp at hm
     subst hm
     obtain⟨q1,h2,h3,h4⟩:=C _ _ h1 _ x.1 x.2 I (hp x Xah) (hl 0 a x rfl rfl)
     obtain⟨q2,h5,h6,h7⟩:=ZkK rec f C cs g l _ R aa hr J (fun y hy=>hp y (Xai _ hy)) (fun i b y hb hy=>hl (i+1) b y (by simpa using hb) (by simpa using hy))
     refine⟨q1++q2,⟨q1,q2,rfl,h2,h5⟩, ?_, ?_⟩
     ·rw[ho]at h3
      have:=Zih h3 h6
      rw[show cs.drop (off+P.cellsOf (g a).2)=(cs.drop off).drop (P.cellsOf (g a).2)from by rw[Xa9],XaR]at this
      exact this
     ·intro q hq
      rcases XaA.1 hq with hq|hq
      ·exact h4 q hq
      ·exact h7 q hq
theorem Zoo: ∀ (n:Nat) (t:TypeId) (ty:Ty),ZmD P n t=some ty→ ∀ (fuel:Nat) (cs:List Value) (d:DataW H) (ps:List MemPlace),DataW.trod enc P w 0 (fun _=>true) true fuel t cs=some (d,ps)→
 (∀x∈ps,x.block<w.heap.size)→Lim P t d→Got w ty cs
 |0,t,ty,h=>by simp[ZmD]at h
 |n+1,t,ty,h=>by
  have ih:=Zoo n
  intro fuel cs d ps C ab U
  cases fuel with
  |zero=>simp[DataW.trod]at C
  |succ fuel=>
   have ah: ∀J,Zki P t=some J→(Zki P t).bind (fun J=>(Zgl P (P.cellsOf t) (ZmD P n) J 0).map Ty.agg)=some ty→Got w ty cs:=by
    intro J I hb
    rw[I,Xab]at hb
    cases ae:Zgl P (P.cellsOf t) (ZmD P n) J 0 with
    |none=>simp[ae]at hb
    |some tys=>
     simp only[ae,Xak,Xaf]at hb
     subst hb
     unfold Zki at I
     split at I
     ·rename_i fs hu
      cases I
      simp only[DataW.trod,hu]at C
      obtain⟨hlen,C⟩:=Zar C
      cases hm:fs.toList.mapM (fun f=>DataW.trod enc P w 0 (fun _=>true) true fuel f.type ((cs.drop f.offset).take (P.cellsOf f.type)))with
      |none=>rw[hm]at C;simp at C
      |some xs=>
       rw[hm]at C
       simp only[Xak,Xaf,Prod.mk.injEq]at C
       obtain⟨rfl,rfl⟩:=C
       have au:=mapM_some_length hm
       obtain⟨qs,h1,h2,R⟩:=ZkK (w:=w) (P:=P) (ZmD P n) (fun t cs=>DataW.trod enc P w 0 (fun _=>true) true fuel t cs) (fun t ty h1 cs d ps h2 R h4=>ih t ty h1 fuel cs d ps h2 R h4) cs (fun f:Field=>(f.offset,f.type)) fs.toList 0 tys xs (by rw[hlen];exact ae) hm
        (fun x hx p hp=>ab p (Xbd.2 ⟨x,hx,hp⟩))
        (fun i a x ha hx m hm=>U m (by
         simp only[DataW.weights,hu]
         exact DataW.weights_mem_each (j:=i) (by simp[ha]) (by simp[hx]) m hm))
       exact⟨qs,by simp only[ZbD];exact h1,by simpa using h2,R⟩
     ·rename_i k e hu
      cases I
      simp only[DataW.trod,hu]at C
      obtain⟨hlen,C⟩:=Zar C
      cases hm:(List.range k).mapM (fun i=>DataW.trod enc P w 0 (fun _=>true) true fuel e ((cs.drop (i*P.cellsOf e)).take (P.cellsOf e)))with
      |none=>rw[hm]at C;simp at C
      |some xs=>
       rw[hm]at C
       simp only[Xak,Xaf,Prod.mk.injEq]at C
       obtain⟨rfl,rfl⟩:=C
       obtain⟨qs,h1,h2,R⟩:=ZkK (w:=w) (P:=P) (ZmD P n) (fun t cs=>DataW.trod enc P w 0 (fun _=>true) true fuel t cs) (fun t ty h1 cs d ps h2 R h4=>ih t ty h1 fuel cs d ps h2 R h4) cs (fun i:Nat=>(i*P.cellsOf e,e)) (List.range k) 0 tys xs (by rw[hlen];exact ae) hm
        (fun x hx p hp=>ab p (Xbd.2 ⟨x,hx,hp⟩))
        (fun i a x _ hx m hm=>U m (by
         simp only[DataW.weights,hu]
         exact ZfF (List.mem_map_of_mem (XaI hx)) m hm))
       exact⟨qs,by simp only[ZbD];exact h1,by simpa using h2,R⟩
     ·cases I
   have one: ∀ {v:Value} {q:PV},ZbD ty [q]→IRel w (fun b=>b<w.heap.size) q v→Zcr q=true→cs=[v]→Got w ty cs:=by
    intro v q h1 h2 R h4
    subst h4
    exact⟨[q],h1,by simp only[LRel];exact⟨v,[],rfl,h2,rfl⟩,by simpa using R⟩
   unfold ZmD at h
   split at h
   ·rename_i hu
    cases h
    match cs,C with
    | [.bool b],C=>exact one (v:= .bool b) (q:= .bool b) (by simp[ZbD]) (by simp only[IRel]) rfl rfl
    | [],C=>simp[DataW.trod,hu]at C
    |v::u::r,C=>cases v<;>simp[DataW.trod,hu]at C
    | [.int _ _],C| [.float _ _],C| [.string _],C| [.pointer _],C| [.slice _ _ _],C| [.agg _],C| [.tuple _],C| [.nilFunc],C| [.map _],C| [.func _ _ _],C=>simp[DataW.trod,hu]at C
    | [v],C=>cases v<;>first|(simp[DataW.trod,hu]at C;done)|(rename_i b;exact one (v:= .bool b) (q:= .bool b) (by simp[ZbD]) (by simp only[IRel]) rfl rfl)
   ·rename_i k hu
    cases h
    match cs,C with
    | [],C=>simp[DataW.trod,hu]at C
    |v::u::r,C=>cases v<;>simp[DataW.trod,hu]at C
    | [v],C=>
     cases v<;>try (simp[DataW.trod,hu]at C;done)
     rename_i k' m
     simp only[DataW.trod,hu]at C
     obtain⟨⟨rfl,hw⟩,C⟩:=Zar C
     exact one (v:= .int k' m) (q:= .int k' m) (by simp only[ZbD];exact⟨m,rfl,hw⟩) (by simp only[IRel]) rfl rfl
   ·rename_i hu
    cases h
    match cs,C with
    | [],C=>simp[DataW.trod,hu]at C
    |v::u::r,C=>cases v<;>simp[DataW.trod,hu]at C
    | [v],C=>
     cases v<;>try (simp[DataW.trod,hu]at C;done)
     rename_i s
     simp only[DataW.trod,hu]at C
     obtain⟨_,C⟩:=Zar C
     cases C
     have:=U s.data.toList.length (by simp[DataW.weights])
     exact one (v:= .string s) (q:= .str s) (by simp only[ZbD];exact⟨s,rfl,by rw[Array.length_toList]at this;exact this⟩) (by simp only[IRel]) rfl rfl
   ·rename_i e hu
    obtain⟨et,h1,h⟩:=Zak h
    obtain⟨hz,h⟩:=Zar h
    cases h
    match cs,C with
    | [],C=>simp[DataW.trod,hu]at C
    |v::u::r,C=>cases v<;>simp[DataW.trod,hu]at C
    | [v],C=>
     cases v<;>try (simp[DataW.trod,hu]at C;done)
     rename_i ao len cap
     cases ao with
     |none=>
      cases len<;>cases cap<;>first
       |(simp[DataW.trod,hu]at C;done)
       |exact one (v:= .slice none 0 0) (q:= .nils) (by simp[ZbD]) (by simp only[IRel]) rfl rfl
     |some ad=>
      simp only[DataW.trod,hu]at C
      obtain⟨⟨_,aj,av⟩,C⟩:=Zar C
      obtain⟨elems,hm,C⟩:=Zak C
      have fin: ∀ {X:Option (List (DataW H×List MemPlace))},(X.map fun rest=>(DataW.slice (elems.map fun x=>x.1) (rest.map fun x=>x.1),MemPlace.row ad ((elems.length+rest.length)*P.cellsOf e)++(elems++rest).flatMap fun x=>x.2))=some (d,ps)→
       ∃rest:List (DataW H×List MemPlace),DataW.slice (elems.map fun x=>x.1) (rest.map fun x=>x.1)=d∧MemPlace.row ad ((elems.length+rest.length)*P.cellsOf e)++(elems++rest).flatMap (fun x=>x.2)=ps:=by
       intro X hX
       cases X with
       |none=>cases hX
       |some rest=>
        simp only[Xak,Xaf,Prod.mk.injEq]at hX
        exact⟨rest,hX.1,hX.2⟩
      obtain⟨rest,rfl,rfl⟩:=fin C
      have ak:elems.length=len:=by have:=mapM_some_length hm;simpa using this
      have each: ∀i,∃q,i<len→ZbD et q∧(∀c∈q,Zcr c=true)∧ ∃vals,w.cells? 0 (ad.add (i*P.cellsOf e)) (P.cellsOf e)=some vals∧LRel w (fun b=>b<w.heap.size) q vals:=by
       intro i
       by_cases hi:i<len
       ·have h2:=mapM_some_get hm i i (by simp[hi])
        obtain⟨x,hx⟩: ∃x,elems[i]? =some x:=⟨elems[i],by simp[ak,hi]⟩
        rw[hx]at h2
        obtain⟨vals,R,h4⟩:=Zak h2
        obtain⟨q,h5,h6,h7⟩:=ih e et h1 fuel vals x.1 x.2 h4
         (fun p hp=>ab p (Xbi _ (Xbd.2 ⟨x,Xbf _ (XaI hx),hp⟩)))
         (fun m hm=>U m (by
          simp only[DataW.weights,hu,Xav,XaA]
          exact .inr (.inl (ZfF (List.mem_map_of_mem (XaI hx)) m hm))))
        exact⟨q,fun _=>⟨h5,h7,vals,R,h6⟩⟩
       ·exact⟨[],fun h=>absurd h hi⟩
      obtain⟨q,hq⟩:=Classical.axiomOfChoice each
      have al:=U ((elems.length+rest.length)*P.bytesOf e) (by simp[DataW.weights,hu])
      have aa:((List.range len).map q).length=len:=by simp
      refine one (v:= .slice (some ad) len cap) (q:= .lst ((List.range len).map q)) ?_ ?_ rfl rfl
      ·simp only[ZbD]
       refine .inr ⟨_,rfl,by rw[aa];omega, ?_, ?_⟩
       ·rw[aa]
        exact XaM (Xa8 _ (by omega)) al
       ·intro c hc
        obtain⟨i,hi,rfl⟩:=Xbq.1 hc
        exact(hq i (by simpa using hi)).1
      ·simp only[IRel]
       refine⟨ad,cap,by rw[aa],by rw[aa];exact aj, ?_⟩
       by_cases an:len=0
       ·left;subst an;rfl
       ·right
        obtain⟨b,o,spot⟩:=ad
        have af:spot=none:=by
         obtain⟨_,_,vals,R,_⟩:=hq 0 (by omega)
         obtain⟨_,h5,h6⟩:=World.cells?_some R
         have h7:=h6 0 hz
         obtain⟨v0,aq⟩: ∃v0,vals[0]? =some v0:=⟨vals[0],by simp[h5,hz]⟩
         rw[aq]at h7
         have:=World.cell?_spot h7
         simpa[Addr.add]using this
        subst af
        have ai: ∀m,(⟨b,o,none⟩:Addr).add m=⟨b,o+m,none⟩:=by
         intro m;unfold Addr.add;split
         ·rename_i h0;subst h0;rfl
         ·rfl
        refine⟨b,o,P.cellsOf e,rfl, ?_, ?_,ZoN (z:=P.cellsOf e) ?_ ?_⟩
        ·have:MemPlace.cell b o∈MemPlace.row ⟨b,o,none⟩ ((elems.length+rest.length)*P.cellsOf e):=by
          simp only[MemPlace.row,Xbq,List.mem_range]
          exact⟨0,Nat.mul_pos (by omega) hz,by simp⟩
         exact ab _ (Xbf _ this)
        ·intro c hc
         obtain⟨i,hi,rfl⟩:=Xbq.1 hc
         obtain⟨_,_,vals,R,h4⟩:=hq i (by simpa using hi)
         rw[ZfS h4,(World.cells?_some R).2.1]
        ·intro c hc
         obtain⟨i,hi,rfl⟩:=Xbq.1 hc
         obtain⟨_,_,vals,R,h4⟩:=hq i (by simpa using hi)
         rw[ZfS h4,(World.cells?_some R).2.1]
        ·intro i c hc
         have hi:i<len:=by
          have:=(Xae.1 hc).1
          simpa using this
         simp only[Xa2,List.getElem?_range hi,Xak,Xaf]at hc
         subst hc
         obtain⟨_,h7,vals,R,h4⟩:=hq i hi
         obtain⟨_,h5,h6⟩:=World.cells?_some R
         refine ZoU h4 h7 fun j v hj=> ?_
         have ar:j<P.cellsOf e:=by
          have:=(Xae.1 hj).1
          omega
         have h8:=h6 j ar
         have ag:((⟨b,o,none⟩:Addr).add (i*P.cellsOf e)).add j=⟨b,o+i*P.cellsOf e+j,none⟩:=by
          rw[ai];unfold Addr.add;split
          ·rename_i h0;subst h0;rfl
          ·rfl
         rw[ag,hj]at h8
         exact h8
   ·cases hs:Zki P t with
    |none=>rw[hs]at h;cases h
    |some J=>exact ah J hs h
end
variable [Laid]
open Go.ChangeShapes Go.WideShapes Go.ChangeAt Go.RowKit
def ZmB:Ty→PV→Prop
 | .agg ps,p=> ∃cs,p= .agg cs∧HasTys ps cs
 |ty,p=>ZbD ty [p]
def ZfT:List Ty→List PV→Prop
 | [],j=>j=[]
 |t::ts,j=> ∃q r,j=q::r∧ZmB t q∧ZfT ts r
section
variable {H : Type} {enc : TypeId × Value → H} {P : Program} {w : World}
theorem ZnU {n:Nat} {t:TypeId} {ty:Ty} (h:ZmD P n t=some ty):(∃ps,ty= .agg ps∧((∃I,P.underlying t=some (.struct I))∨ ∃k e,P.underlying t=some (.array k e)))∨((∀ps,ty≠ .agg ps)∧ ∀v r base,Value.okWide P w r base t v→ ∀cs,v≠ .agg cs):=by
 cases n with
 |zero=>simp[ZmD]at h
 |succ n=>
  unfold ZmD at h
  split at h
  ·rename_i hu
   cases h
   refine .inr ⟨by simp,fun v r base j cs=> ?_⟩
   rintro rfl
   simp[Value.okWide,hu,Cell.okWide,Cell.ok]at j
  ·rename_i hu
   cases h
   refine .inr ⟨by simp,fun v r base j cs=> ?_⟩
   rintro rfl
   simp[Value.okWide,hu,Cell.okWide,Cell.ok]at j
  ·rename_i hu
   cases h
   refine .inr ⟨by simp,fun v r base j cs=> ?_⟩
   rintro rfl
   simp[Value.okWide,hu,Cell.okWide,Cell.ok]at j
  ·rename_i hu
   obtain⟨x,_,h⟩:=Zak h
   obtain⟨_,h⟩:=Zar h
   cases h
   refine .inr ⟨by simp,fun v r base j cs=> ?_⟩
   rintro rfl
   simp[Value.okWide,hu,Cell.okWide,Cell.ok]at j
  ·obtain⟨C,J,h⟩:=Zak h
   cases R:Zgl P (P.cellsOf t) (ZmD P n) C 0 with
   |none=>simp[R]at h
   |some tys=>
    simp only[R,Xak,Xaf]at h
    refine .inl ⟨tys,h.symm, ?_⟩
    unfold Zki at J
    split at J
    ·rename_i I hu;exact .inl ⟨I,hu⟩
    ·rename_i k e hu;exact .inr ⟨k,e,hu⟩
    ·cases J
theorem Zxd {n:Nat} {t:TypeId} {ty:Ty} (j:ZmD P n t=some ty) {v:Value} {d:DataW H} {ps:List MemPlace} (J:DataW.Trod enc P w 0 (fun _=>true) true t v d ps) {r:Reach} {base:Nat} (C:Value.okWide P w r base t v)
 (R: ∀x∈ps,x.block<w.heap.size) (hl:Lim P t d): ∃p,ZmB ty p∧IRel w (fun b=>b<w.heap.size) p v:=by
 obtain⟨fuel,J⟩:=J
 obtain⟨U,h1,I,h3⟩:=Zoo n t ty j fuel _ d ps J R hl
 rcases ZnU (w:=w) j with⟨tys,rfl,hu⟩|⟨aa,ab⟩
 ·have: ∃cs,v= .agg cs:=by
   rcases hu with⟨fs,hu⟩|⟨k,e,hu⟩
   ·simp only[Value.okWide,hu]at C;exact⟨_,C.choose_spec.1⟩
   ·simp only[Value.okWide,hu]at C;exact⟨_,C.choose_spec.1⟩
  obtain⟨cs,rfl⟩:=this
  refine⟨.agg U,⟨U,rfl,by simpa only[ZbD]using h1⟩, ?_⟩
  simp only[IRel]
  exact⟨cs,rfl,h3,I⟩
 ·have hc:v.cells.toList=[v]:=by
   cases v with
   |agg cs=>exact absurd rfl (ab _ r base C cs)
   |_=>rfl
  rw[hc]at I
  cases U with
  |nil=>simp[LRel]at I
  |cons q r=>
   simp only[LRel]at I
   obtain⟨v',r',h4,h5,h6⟩:=I
   cases h4
   have hr:r=[]:=by
    cases r with
    |nil=>rfl
    |cons x y=>simp[LRel]at h6
   subst hr
   refine⟨q, ?_,h5⟩
   cases ty with
   |agg ps=>exact absurd rfl (aa ps)
   |_=>exact h1
theorem Zo9 {n:Nat} {r:Reach} {base:Nat}: ∀ (ts:List TypeId) (vs:List Value) (ds:List (DataW H)) (ps:List MemPlace) (tys:List Ty),DataW.TrodAll enc P w 0 (fun _=>true) true ts vs ds ps→ZaV (ZmD P n) ts=some tys→
 (∀ (j:Nat) t v,ts[j]? =some t→vs[j]? =some v→Value.okWide P w r base t v)→(∀x∈ps,x.block<w.heap.size)→(∀ (j:Nat) t d,ts[j]? =some t→ds[j]? =some d→Lim P t d)→
 ∃I,ZfT tys I∧LRel w (fun b=>b<w.heap.size) I vs∧ds.length=ts.length
 | [],[],[],ps,tys,h,C,_,_,_=>by
  simp[Zb6]at C;subst C
  exact⟨[],by simp only[ZfT],by simp only[LRel],rfl⟩
 |t::ts,v::vs,d::ds,ps,tys,h,C,hv,hp,hl=>by
  obtain⟨p,q,h1,h2,rfl⟩:=h
  obtain⟨ty,J,h3,h4,rfl⟩:=ZaD C
  obtain⟨x,h5,h6⟩:=Zxd h3 h1 (hv 0 t v rfl rfl) (fun y R=>hp y (Xbf _ R)) (hl 0 t d rfl rfl)
  obtain⟨I,h7,h8,h9⟩:=Zo9 ts vs ds q J h2 h4 (fun j t v C U=>hv (j+1) t v (by simpa using C) (by simpa using U)) (fun y R=>hp y (Xbi _ R)) (fun j t d C hd=>hl (j+1) t d (by simpa using C) (by simpa using hd))
  exact⟨x::I,by simp only[ZfT];exact⟨x,I,rfl,h5,h7⟩,by simp only[LRel];exact⟨v,vs,rfl,h6,h8⟩,by simp[h9]⟩
 | [],_::_,_,_,_,h,_,_,_,_=>by simp[DataW.TrodAll]at h
 | [],[],_::_,_,_,h,_,_,_,_=>by simp[DataW.TrodAll]at h
 |_::_,[],_,_,_,h,_,_,_,_=>by simp[DataW.TrodAll]at h
 |_::_,_::_,[],_,_,h,_,_,_,_=>by simp[DataW.TrodAll]at h
theorem ZjZ {w':World} (I:laidOutB P=true) (J:Below w.heap.size w w'): ∀ (ts:List TypeId) (vs:List Value) (ds:List (DataW H)) (ps:List MemPlace),DataW.TrodAll enc P w 0 (fun _=>true) true ts vs ds ps→
 (∀t∈ts,P.readableRec t=true∧t<P.types.size)→(∀x∈ps,x.block<w.heap.size)→DataW.TrodAll enc P w' 0 (fun b=>decide (b<w.heap.size)) true ts vs ds ps
 | [],[],[],ps,h,_,_=>h
 |t::ts,v::vs,d::ds,ps,h,C,hp=>by
  obtain⟨p,q,R,U,rfl⟩:=h
  exact⟨p,q,Below.trod I (C t Xah).1 (C t Xah).2 R J (fun x j=>hp x (Xbf _ j)),ZjZ I J ts vs ds q U (fun x j=>C x (Xai _ j)) (fun x j=>hp x (Xbi _ j)),rfl⟩
 | [],_::_,_,_,h,_,_=>by simp[DataW.TrodAll]at h
 | [],[],_::_,_,h,_,_=>by simp[DataW.TrodAll]at h
 |_::_,[],_,_,h,_,_=>by simp[DataW.TrodAll]at h
 |_::_,_::_,[],_,h,_,_=>by simp[DataW.TrodAll]at h
theorem ZmW {h:Hints} (hS:Static P h) (hP:Zck P h) (laid:laidOutB P=true) {f:FuncId} {fn:Func} {s:ChangeSpec} {tys:List Ty} {tb:TypeId} (C:s.vars=[]) (ad:fn.resultTypes= #[tb]) (aj:P.underlying tb=some .bool)
 (I: ∀t∈fn.params.toList,P.readableRec t=true∧t<P.types.size) (ae:ZaV (ZmD P 20) fn.params.toList=some tys)
 (J: ∀qs,ZfT tys qs→ ∃n H',(Zdb P h n).rn f qs []=some (.bool true,H'))
 (R: ∀ds:List (DataW H),ds.length=fn.params.size→s.fn H ds={results:=[.lit (.bool true)],args:=ds,vars:=[]})
 {W:World} {base:Nat} {args:Array Value} {ds gs:List (DataW H)} {before:List MemPlace} {apart fresh handsOn:Bool} (U:Laid.ok (fun b=>b<W.heap.size) W)
 (af: ∀ (j:Nat) t v,fn.params[j]? =some t→args[j]? =some v→Value.okWide P W .any base t v) (hW:DataW.Whole enc P fn.params.toList s.vars apart W args.toList ds gs before)
 (ag:(DataW.weightsEach P (fn.params.toList++s.plain.varTypes P) (ds++gs)).all (· ≤reachBytes)=true):
 Calls P f args W fun e W'=> ∃v,e= .returned v∧s.post enc P fn apart fresh handsOn false W args v W':=by
 have aa:=hW.lt
 have ah:=hW
 obtain⟨p,q,hA,hV,rfl,_,_⟩:=hW
 rw[C]at hV
 obtain⟨rfl,rfl⟩:=trodVars_none hV
 simp only[XaF]at ag aa ah
 obtain⟨qs,h1,h2,h3⟩:=Zo9 fn.params.toList args.toList ds p tys hA ae (fun j t v ht hv=>af j t v (by simpa using ht) (by simpa using hv)) aa (fun j t d ht hd n hn=>by
  have hj:(fn.params.toList++s.plain.varTypes P)[j]? =some t:=by rw[Xar (Xae.1 ht).1];exact ht
  have:=Xau.1 ag n (DataW.weights_mem_each hj hd n hn)
  simpa using this)
 obtain⟨n,H',he⟩:=J qs h1
 have hc:=(ZfO hS hP n).1.rn f qs [] _ H' he (fun _=>none) (fun b=>b<W.heap.size) W W.heap.size args.toList (Inv.empty _ W (fun _ hb=>hb) U) (Zgq h2)
 rw[show args.toList.toArray=args from by simp]at hc
 refine hc.mono ?_
 rintro e W' ⟨u,φ',S',rfl,_,ai,hu⟩
 simp only[VRel]at hu
 subst hu
 have ab:=R ds (by simpa using h3)
 refine⟨_,rfl,ds,[],p,[],p,[],by simpa using ah, ?_, ?_, ?_,ai.below.frame _,fun h=>by cases h⟩
 ·rw[XaF,ab,ad]
  exact trodAll_mk1 (shut_bool aj true)
 ·rw[XaF,ab]
  exact ZjZ laid ai.below _ _ _ _ hA I aa
 ·rw[C,XaF,ab];rfl
end
variable [Laid]
def Zmq {α:Type} (l:List (Nat×α)) (i:Nat):Option α:=
 List.rec none (fun p _ j=>bif Nat.beq i p.1 then some p.2 else j) l
def mkHints (ok opn mem imp:List Nat) (keep keepB:List (Nat×List (Nat×List Nat×Bool))) (light:List (Nat×List (Nat×List Nat))) (frz:List Nat):Hints where
 ok:=fun f=>has f ok
 opn:=fun f=>has f opn
 mem:=fun f=>has f mem
 imp:=fun f=>has f imp
 keep:=fun f r=>(Zmq keep f).bind fun l=>Zmq l r
 keepB:=fun f r=>(Zmq keepB f).bind fun l=>Zmq l r
 light:=fun f r=>((Zmq light f).bind fun l=>Zmq l r).getD []
 perm:=fun _ _=> []
 frz:=fun t=>has t frz
 prim:=fun _=>none
def withPerm (h:Hints) (perm:List (Nat×List (Nat×List Nat))):Hints:={h with perm:=fun f r=>((Zmq perm f).bind fun l=>Zmq l r).getD []}
theorem static_ofP {P:Program} {ok opn mem imp:List Nat} {keep keepB:List (Nat×List (Nat×List Nat×Bool))} {light perm:List (Nat×List (Nat×List Nat))} {frz:List Nat} (hm:P.follows .mixedOrders=true)
 (j:(ok.all fun f=>Zkw P (withPerm (mkHints ok opn mem imp keep keepB light frz) perm) f)=true):Static P (withPerm (mkHints ok opn mem imp keep keepB light frz) perm):=
 ⟨hm,fun f h=>Xau.1 j f (ZtZ h),fun f h=>by simp[mkHints,withPerm]at h⟩
def ZuM (r:Option (PV×List Mem)):Bool:=
 match r with
 |some (.bool true,_)=>true
 |_=>false
variable [Laid]
def Evt (p:Nat→Prop):Prop:= ∃n,∀m,n≤m→p m
theorem Evt.of {p:Nat→Prop} (h: ∀m,p m):Evt p:=⟨0,fun m _=>h m⟩
theorem Evt.and {p q:Nat→Prop} (h:Evt p) (j:Evt q):Evt fun m=>p m∧q m:=by
 obtain⟨n,h⟩:=h
 obtain⟨n',j⟩:=j
 exact⟨max n n',fun m hm=>⟨h m (by omega),j m (by omega)⟩⟩
theorem Evt.mono {p q:Nat→Prop} (h:Evt p) (j: ∀m,p m→q m):Evt q:=by
 obtain⟨n,h⟩:=h
 exact⟨n,fun m hm=>j m (h m hm)⟩
structure Tends (Es:Nat→Ev) (L:Ev):Prop where
 ex: ∀c code s r,L.ex c code s=some r→Evt fun m=>(Es m).ex c code s=some r
 rn: ∀f a H r,L.rn f a H=some r→Evt fun m=>(Es m).rn f a H=some r
section
variable (Es : Nat → Ev) (L : Ev)
def Ec {α:Type} (F:Ev→Option α):Prop:= ∀r,F L=some r→Evt fun m=>F (Es m)=some r
variable {Es L}
theorem Ec.const {α:Type} (x:Option α):Ec Es L fun _=>x:=fun _ h=>Evt.of fun _=>h
theorem Ec.bind {α β:Type} {F:Ev→Option α} {G:α→Ev→Option β} (h:Ec Es L F) (j: ∀a,Ec Es L (G a)):Ec Es L fun E=>(F E).bind fun a=>G a E:=by
 intro r C
 obtain⟨a,I,J⟩:=Zak C
 exact((h a I).and (j a r J)).mono fun m hm=>by show((F (Es m)).bind fun a=>G a (Es m))=some r;rw[hm.1];exact hm.2
theorem Ec.map {α β:Type} {F:Ev→Option α} (g:α→β) (h:Ec Es L F):Ec Es L fun E=>(F E).map g:=by
 intro r j
 obtain⟨a,C,I⟩:=Zxf j
 exact(h a C).mono fun m hm=>by show(F (Es m)).map g=some r;rw[hm,←I];rfl
theorem Ec.ite {α:Type} {c:Prop} [Decidable c] {F G:Ev→Option α} (h:Ec Es L F) (C:Ec Es L G):Ec Es L fun E=>if c then F E else G E:=by
 by_cases j:c
 ·simpa only[if_pos j]using h
 ·simpa only[if_neg j]using C
theorem Ec.cond {α:Type} {c:Bool} {F G:Ev→Option α} (h:Ec Es L F) (j:Ec Es L G):Ec Es L fun E=>bif c then F E else G E:=by
 cases c
 ·exact j
 ·exact h
variable {P : Program} {h : Hints}
theorem Zm6 (C:Tends Es L) (f:FuncId) (j:List PV):Ec Es L fun E=>Zb8 h E f j:=by
 unfold Zb8
 cases h.prim f with
 |none=>exact Ec.bind (C.rn f j []) fun x=>Ec.const _
 |some g=>exact Ec.const _
theorem Zqx (C:Tends Es L) (f:FuncId) (j:List PV) (base:Nat):Ec Es L fun E=>ZdL E f j base:=by
 unfold ZdL
 exact Ec.bind (C.rn f j []) fun x=>Ec.const _
theorem ZoW (j:Tends Es L) (f:FuncId) (args:List PV) (H:List Mem) (base:Nat):Ec Es L fun E=>Zgt h E f args H base:=by
 unfold Zgt
 refine Ec.bind (Ec.const _) fun C=> ?_
 refine Ec.cond ?_ ?_
 ·unfold ZwC;exact Ec.map _ (Zqx j f C base)
 ·unfold Zoe;exact Ec.bind (Zm6 j f C) fun q=>Ec.const _
theorem Zl1 (j:Tends Es L) (H:List Mem) (base:Nat) (ρ:Operand→Option PV) (f:FuncId) (c:Call):Ec Es L fun E=>ZeQ h E H base ρ f c:=by
 unfold ZeQ
 exact Ec.ite (Ec.const _) (Ec.bind (Ec.const _) fun vs=>ZoW j f vs H base)
theorem Zr1 (j:Tends Es L) (H:List Mem) (base:Nat) (ρ:Operand→Option PV) (c:Call):Ec Es L fun E=>Zhz P h E H base ρ c:=by
 unfold Zhz
 split
 ·exact Ec.const _
 ·exact Zl1 j H base ρ _ c
 ·exact Ec.const _
theorem Zy8 (j:Tends Es L) (H:List Mem) (base:Nat) (ρ:Operand→Option PV) (o:Oper):Ec Es L fun E=>opR P h E H base ρ o:=by
 unfold opR
 split
 case h_25=>exact Zr1 j H base ρ _
 all_goals exact Ec.const _
theorem Zhh (j:Tends Es L) (H:List Mem) (ρ:Operand→Option PV) (o:Oper):Ec Es L fun E=>ZaK P h E H ρ o:=by
 unfold ZaK
 exact Ec.bind (Zy8 j H _ ρ o) fun x=>Ec.const _
theorem ZjP (j:Tends Es L) (f:FuncId) (args:List PV) (H:List Mem):Ec Es L fun E=>Zcu h E f args H:=by
 unfold Zcu
 exact Ec.ite (j.rn f args H) (Ec.map _ (ZoW j f args H H.length))
theorem Zul (j:Tends Es L) (H:List Mem) (ρ:Operand→Option PV) (f:FuncId) (c:Call):Ec Es L fun E=>Zm0 h E H ρ f c:=by
 unfold Zm0
 exact Ec.bind (Ec.const _) fun vs=>ZjP j f vs H
theorem ZxW (j:Tends Es L) (H:List Mem) (ρ:Operand→Option PV) (x:Operand) (c:Call):Ec Es L fun E=>ZqZ h E H ρ x c:=by
 unfold ZqZ
 refine Ec.bind (Ec.const _) fun C=> ?_
 cases C<;>first
  |exact Ec.const _
  |exact Ec.bind (Ec.const _) fun vs=>ZjP j _ _ H
theorem ZuJ (j:Tends Es L) (H:List Mem) (ρ:Operand→Option PV) (c:Call):Ec Es L fun E=>Zg3 P h E H ρ c:=by
 unfold Zg3
 split
 ·exact Ec.const _
 ·refine Ec.ite (Zul j H ρ _ c) ?_
  unfold ZiN
  exact Ec.map _ (Zl1 j H H.length ρ _ c)
 ·exact ZxW j H ρ _ c
 ·exact Ec.const _
theorem Zy3 (j:Tends Es L) (H:List Mem) (ρ:Operand→Option PV) (o:Oper):Ec Es L fun E=>opA P h E H ρ o:=by
 unfold opA
 split
 case h_25=>exact ZuJ j H ρ _
 all_goals exact Ec.const _
theorem ZlZ (j:Tends Es L) (N:Nat) (ops:Array Oper) (o:Oper) (s:St):Ec Es L fun E=>ZcV P h E N ops o s:=by
 unfold ZcV
 refine Ec.bind (Ec.const _) fun b=>Ec.cond (Ec.bind (Zy3 j _ _ o) fun x=>Ec.const _) (Ec.const _)
theorem Zkp (j:Tends Es L) (N:Nat) (ops:Array Oper): ∀ (l:List Oper) (s:St),Ec Es L fun E=>Zeh P h E N ops l s
 | [],s=>Ec.const _
 |o::l,s=>Ec.bind (ZlZ j N ops o s) fun C=>Zkp j N ops l C
theorem Zvk (j:Tends Es L) (N:Nat) (ops:Array Oper) (ls:List Nat) (i:Nat) (o:Oper) (s:St):Ec Es L fun E=>Zci P h E N ops ls i o s:=by
 unfold Zci
 refine Ec.cond ?_ (ZlZ j N ops o s)
 unfold Zsx
 exact Ec.bind (Ec.const _) fun b=>Ec.cond (Ec.bind (Zhh j _ _ o) fun x=>Ec.const _) (Ec.const _)
theorem Zpb (j:Tends Es L) (H:List Mem): ∀acc:List (Nat×Oper×List (Nat×PV)×PV),Ec Es L fun E=>Zdp P h E acc H
 | []=>Ec.const _
 |x::acc=>Ec.bind (Zhh j H _ x.2.1) fun _=>Ec.cond (Zpb j H acc) (Ec.const _)
theorem Zym (j:Tends Es L) (ops:Array Oper) (i:Nat) (o:Oper) (s:St) (acc:List (Nat×Oper×List (Nat×PV)×PV)):Ec Es L fun E=>Zur P h E ops i o s acc:=by
 unfold Zur
 exact Ec.bind (Ec.const _) fun b=>Ec.cond (Ec.map _ (Zhh j _ _ o)) (Ec.const _)
theorem ZfU (j:Tends Es L) (N:Nat) (ops:Array Oper) (ls:List Nat): ∀ (l:List Oper) (i:Nat) (acc:List (Nat×Oper×List (Nat×PV)×PV)) (s:St),Ec Es L fun E=>Zbd P h E N ops ls l i acc s
 | [],_,_,s=>Ec.const _
 |o::l,i,acc,s=>Ec.bind (Zvk j N ops ls i o s) fun I=>Ec.cond (Ec.bind (Zym j ops i o s acc) fun C=>ZfU j N ops ls l (i+1) C I) (Ec.bind (Zpb j _ (Zb9 _ o acc)) fun _=>ZfU j N ops ls l (i+1) (Zb9 _ o acc) I)
theorem ZwR (j:Tends Es L) (N:Nat) (ls:List Nat) (ops:Array Oper) (s:St):Ec Es L fun E=>Zps P h E N ls ops s:=by
 unfold Zps
 split
 ·exact Zkp j N ops _ s
 ·exact ZfU j N ops _ _ _ _ s
theorem Zhf (j:Tends Es L):Tends (fun m=>step P h (Es m)) (step P h L):=by
 refine⟨fun c code s=> ?_,fun f a H=> ?_⟩
 ·show Ec Es L fun E=>(step P h E).ex c code s
  cases code with
  |region id ops d=>
   simp only[step]
   exact Ec.map _ (ZwR j _ _ _ _)
  |seq a b=>
   simp only[step]
   refine Ec.bind (j.ex c a s) fun x=> ?_
   obtain⟨e,C⟩:=x
   cases e
   ·exact j.ex c b C
   ·exact Ec.const _
   ·exact Ec.const _
  |cond x a b=>
   simp only[step]
   refine Ec.bind (Ec.const _) fun v=> ?_
   cases v<;>first
    |exact Ec.const _
    |exact j.ex _ _ _
  |block id b=>
   simp only[step]
   refine Ec.bind (j.ex c b s) fun x=> ?_
   exact Ec.const _
  |loop b=>
   simp only[step]
   refine Ec.bind (Ec.const _) fun I=>Ec.bind (j.ex c b I) fun x=> ?_
   obtain⟨e,C⟩:=x
   cases e
   ·exact j.ex c (.loop b) C
   ·exact Ec.const _
   ·exact Ec.const _
  |_=>exact Ec.const _
 ·show Ec Es L fun E=>(step P h E).rn f a H
  simp only[step]
  refine Ec.ite ?_ (Ec.const _)
  split
  ·split
   ·refine Ec.ite ?_ (Ec.const _)
    exact Ec.bind (j.ex _ _ _) fun x=>Ec.const _
   ·exact Ec.const _
  ·exact Ec.const _
end
section
open Classical
def lim (P:Program) (h:Hints):Ev where
 ex:=fun c code s=>if H: ∃r,Evt fun m=>(Zdb P h m).ex c code s=some r then some H.choose else none
 rn:=fun f a M=>if H: ∃r,Evt fun m=>(Zdb P h m).rn f a M=some r then some H.choose else none
end
section
variable {P : Program} {h : Hints}
theorem ZgH:Tends (Zdb P h) (lim P h):=by
 refine⟨fun c code s r j=> ?_,fun f a H r j=> ?_⟩
 ·simp only[lim]at j
  split at j
  ·rename_i C
   cases j
   exact C.choose_spec
  ·cases j
 ·simp only[lim]at j
  split at j
  ·rename_i C
   cases j
   exact C.choose_spec
  ·cases j
theorem Evt.det {α:Type} {F:Nat→Option α} {r j:α} (h:Evt fun m=>F m=some r) (C:Evt fun m=>F m=some j):r=j:=by
 obtain⟨n,I⟩:=h.and C
 have:=I n (Xan _)
 have:=this.1.symm.trans this.2
 exact XbF this
theorem Evt.succ {p:Nat→Prop} (h:Evt fun m=>p (m+1)):Evt p:=by
 obtain⟨n,h⟩:=h
 refine⟨n+1,fun m hm=> ?_⟩
 obtain⟨k,rfl⟩: ∃k,m=k+1:=⟨m-1,by omega⟩
 exact h k (by omega)
theorem Zfx {c:Cx} {code:Code} {s:St} {r:Ex×St} (I:(step P h (lim P h)).ex c code s=some r):(lim P h).ex c code s=some r:=by
 have j:Evt fun m=>(Zdb P h m).ex c code s=some r:=Evt.succ ((Zhf ZgH).ex c code s r I)
 have C: ∃r,Evt fun m=>(Zdb P h m).ex c code s=some r:=⟨r,j⟩
 simp only[lim]
 rw[dif_pos C]
 exact congrArg some (Evt.det C.choose_spec j)
theorem ZyU {f:FuncId} {a:List PV} {H:List Mem} {r:PV×List Mem} (I:(step P h (lim P h)).rn f a H=some r):(lim P h).rn f a H=some r:=by
 have j:Evt fun m=>(Zdb P h m).rn f a H=some r:=Evt.succ ((Zhf ZgH).rn f a H r I)
 have C: ∃r,Evt fun m=>(Zdb P h m).rn f a H=some r:=⟨r,j⟩
 simp only[lim]
 rw[dif_pos C]
 exact congrArg some (Evt.det C.choose_spec j)
theorem Zpw: ∀n,Tends (fun _=>Zdb P h (n+1)) (Zdb P h n)
 |0=>⟨fun c code s r j=>(by cases j),fun f a H r j=>(by cases j)⟩
 |n+1=>Zhf (Zpw n)
theorem Zkd {f:FuncId} {a:List PV} {H:List Mem} {r:PV×List Mem} {n:Nat} (j:(Zdb P h n).rn f a H=some r): ∀k,(Zdb P h (n+k)).rn f a H=some r
 |0=>j
 |k+1=>by
  obtain⟨m,hm⟩:=(Zpw (P:=P) (h:=h) (n+k)).rn f a H r (Zkd j k)
  exact hm m (Xan _)
theorem ZyT {f:FuncId} {a:List PV} {H:List Mem} {r:PV×List Mem} {n:Nat} (I:(Zdb P h n).rn f a H=some r):(lim P h).rn f a H=some r:=by
 have j:Evt fun m=>(Zdb P h m).rn f a H=some r:=⟨n,fun m hm=>by
  obtain⟨k,rfl⟩: ∃k,m=n+k:=⟨m-n,by omega⟩
  exact Zkd I k⟩
 have C: ∃r,Evt fun m=>(Zdb P h m).rn f a H=some r:=⟨r,j⟩
 simp only[lim]
 rw[dif_pos C]
 exact congrArg some (Evt.det C.choose_spec j)
theorem ZrO {f:FuncId} {a:List PV} {H:List Mem} {r:PV×List Mem} (j:(lim P h).rn f a H=some r): ∃n,(Zdb P h n).rn f a H=some r:=by
 obtain⟨n,C⟩:=ZgH.rn f a H r j
 exact⟨n,C n (Xan _)⟩
end
variable [Laid]
section
variable (P : Program) (h : Hints) (E : Ev)
def Zc7 (k:Option (List Nat×Bool)) (id:Nat) (c:Cx):Ex×St→Option (Ex×St)
 |(.exit j,I)=>if j=id then(ZeI k c I).map fun C=>(.normal,C)else some (.exit j,I)
 |(.normal,I)=>(ZeI k c I).map fun C=>(.normal,C)
 |(.ret,I)=>some (.ret,I)
def Zfw (f:St→Option (Ex×St)):Ex×St→Option (Ex×St)
 |(.normal,C)=>f C
 |(.exit j,C)=>some (.exit j,C)
 |(.ret,C)=>some (.ret,C)
def Znu (x y:Option (Ex×St)):PV→Option (Ex×St)
 | .bool true=>x
 | .bool false=>y
 |_=>none
def exS (c:Cx):Code→St→Option (Ex×St)
 | .skip,s=>some (.normal,s)
 | .label _,s=>some (.normal,s)
 | .region id ops _,s=>(Zps P h E c.N (h.light c.fid id) (rgo (h.perm c.fid id) ops) s).map fun j=>(.normal,j)
 | .seq a b,s=>(exS c a s).bind (Zfw (exS c b))
 | .cond x a b,s=>(ev s.tm x).bind (Znu (exS c a s) (exS c b s))
 | .block id b,s=>(exS c b s).bind (Zc7 (h.keepB c.fid id) id c)
 | .loop b,s=>E.ex c (.loop b) s
 | .exit id,s=>some (.exit id,s)
 | .ret,s=>some (.ret,s)
 |_,_=>none
def Zhr (c:Cx) (b:Code) (s:St):Option (Ex×St):=(ZeI (h.keep c.fid (Zdy b)) c s).bind (exS P h E c b)
end
section
variable {P : Program} {h : Hints}
theorem Zei (c:Cx): ∀ (code:Code) (s:St) (r:Ex×St),exS P h (lim P h) c code s=some r→(lim P h).ex c code s=some r
 | .skip,s,r,C=>Zfx C
 | .label _,s,r,C=>Zfx C
 | .region id ops d,s,r,C=>Zfx C
 | .seq a b,s,r,C=>by
  simp only[exS]at C
  obtain⟨⟨e,R⟩,J,I⟩:=Zak C
  refine Zfx ?_
  simp only[step,Zei c a s _ J,Xab]
  cases e with
  |normal=>exact Zei c b R _ I
  |exit j=>exact I
  |ret=>exact I
 | .cond x a b,s,r,C=>by
  simp only[exS]at C
  obtain⟨v,J,I⟩:=Zak C
  refine Zfx ?_
  simp only[step,J,Xab]
  cases v with
  |bool t=>
   cases t with
   |true=>exact Zei c a s _ I
   |false=>exact Zei c b s _ I
  |_=>cases I
 | .block id b,s,r,C=>by
  simp only[exS]at C
  obtain⟨⟨e,R⟩,J,I⟩:=Zak C
  refine Zfx ?_
  simp only[step,Zei c b s _ J,Xab]
  cases e with
  |normal=>exact I
  |exit j=>exact I
  |ret=>exact I
 | .loop b,s,r,C=>C
 | .exit id,s,r,C=>Zfx C
 | .ret,s,r,C=>Zfx C
theorem Zl0 {c:Cx} {b:Code} {s C:St} {r:Ex×St} (j:Zhr P h (lim P h) c b s=some (.normal,C)) (I:(lim P h).ex c (.loop b) C=some r):(lim P h).ex c (.loop b) s=some r:=by
 unfold Zhr at j
 obtain⟨J,R,j⟩:=Zak j
 refine Zfx ?_
 simp only[step,R,Xab,Zei c b J _ j]
 exact I
theorem Zf6 {c:Cx} {b:Code} {s C:St} {e:Ex} (he:e≠ .normal) (j:Zhr P h (lim P h) c b s=some (e,C)):(lim P h).ex c (.loop b) s=some (e,C):=by
 unfold Zhr at j
 obtain⟨I,J,j⟩:=Zak j
 refine Zfx ?_
 simp only[step,J,Xab,Zei c b I _ j]
def Zz7 (P:Program) (rs:List ResultVar):Ex×St→Option (PV×List Mem)
 |(.exit _,_)=>none
 |(_,s)=>(ZaV (ZiM P s.tm s.hp) rs).map fun vs=>(Zbw vs,s.hp)
theorem ZyS {f:FuncId} {fn:Func} {code:Code} {args:List PV} {H:List Mem} {r:PV×List Mem} (C:h.ok f=true) (J:P.funcs[f]? =some fn) (R:fn.body=some code) (U:args.length≤fn.ntmps)
 (hr:(exS P h (lim P h) ⟨f,H.length,fn.ntmps⟩ code ⟨Zbq 0 args,H⟩).bind (Zz7 P fn.results.toList)=some r):(lim P h).rn f args H=some r:=by
 obtain⟨⟨e,s⟩,h1,I⟩:=Zak hr
 refine ZyU ?_
 simp only[step,C,if_true,J,R,U,Zei _ _ _ _ h1,Xab]
 cases e with
 |normal=>exact I
 |exit j=>cases I
 |ret=>exact I
end
variable [Laid]
def Holds {α:Type} (x:Option α) (Q:α→Prop):Prop:= ∃r,x=some r∧Q r
theorem Holds.mono {α:Type} {x:Option α} {Q R:α→Prop} (h:Holds x Q) (j: ∀r,Q r→R r):Holds x R:=by
 obtain⟨r,C,I⟩:=h
 exact⟨r,C,j r I⟩
theorem Zq9 {α β:Type} (f:α→Option β):ZaV f []=some []:=rfl
theorem Za7 {α β:Type} (f:α→Option β) (a:α) (l:List α):ZaV f (a::l)=(f a).bind fun b=>(ZaV f l).bind fun s=>some (b::s):=rfl
section
variable {P : Program} {h : Hints} {E : Ev}
def want (ds:List (Option Tmp)) (tm:List (Nat×PV)) (j:Nat) (w:Bool):Option Bool:=
 match((ds[j]?).bind id).bind (get tm)with
 |some (.bool b)=>some (b==w)
 |some (.tup [])=>some false
 |_=>none
def opE (P:Program) (h:Hints) (E:Ev) (H:List Mem) (ρ:Operand→Option PV) (op:Op):ZlE:=opA P h E H ρ ⟨none,op,0,"", #[],none⟩
theorem Zrf (H:List Mem) (ρ:Operand→Option PV) (o:Oper):opA P h E H ρ o=opE P h E H ρ o.op:=rfl
def ZdV (P:Program) (h:Hints) (E:Ev) (N:Nat) (ds:List (Option Tmp)):List Oper→St→Option St
 | [],s=>some s
 |⟨dst,op,ty,pos,after,none⟩::l,s=>(opE P h E s.hp (ev s.tm) op).bind fun x=>((Zfg N dst x.1 s.tm).map fun tm=>(⟨tm,x.2⟩:St)).bind (ZdV P h E N ds l)
 |⟨dst,op,ty,pos,after,some (j,w)⟩::l,s=>(want ds s.tm j w).bind fun b=>
  (bif b then(opE P h E s.hp (ev s.tm) op).bind fun x=>((Zfg N dst x.1 s.tm).map fun tm=>(⟨tm,x.2⟩:St))else(Zfg N dst (.tup []) s.tm).map fun tm=>⟨tm,s.hp⟩).bind (ZdV P h E N ds l)
theorem Zmj (N:Nat) (ops:Array Oper): ∀ (l:List Oper) (s:St),Zeh P h E N ops l s=ZdV P h E N (ops.toList.map (·.dst)) l s
 | [],s=>rfl
 |⟨dst,op,ty,pos,after,g⟩::l,s=>by
  show(ZcV P h E N ops ⟨dst,op,ty,pos,after,g⟩ s).bind (Zeh P h E N ops l)=_
  rw[show Zeh P h E N ops l=ZdV P h E N (ops.toList.map (·.dst)) l from funext (Zmj N ops l)]
  cases g with
  |none=>
   simp only[ZcV,ZdM,Xab,cond_true,ZdV,Zrf]
   rw[Option.bind_assoc]
  |some C=>
   obtain⟨j,w⟩:=C
   have hw:ZdM ops s.tm ⟨dst,op,ty,pos,after,some (j,w)⟩=want (ops.toList.map (·.dst)) s.tm j w:=by
    simp only[ZdM,want]
    have:(ops[j]?).bind (·.dst)=((ops.toList.map (·.dst))[j]?).bind id:=by
     rw[Xa2,Array.getElem?_toList]
     cases ops[j]? <;>rfl
    rw[this]
    generalize(((ops.toList.map (·.dst))[j]?).bind id).bind (get s.tm)=x
    cases x with
    |none=>rfl
    |some v=>cases v<;>first
     |rfl
     |(rename_i vs;cases vs<;>rfl)
   simp only[ZcV,hw,ZdV,Zrf]
   rw[Option.bind_assoc]
theorem Zvf (N:Nat) (ops:Array Oper) (s:St):Zps P h E N [] ops s=ZdV P h E N (ops.toList.map (·.dst)) ops.toList s:=Zmj N ops _ s
def Sl (q:PV) (es:List (List PV)):Prop:=(q= .nils∧es=[])∨q= .lst es
theorem Sl.len {q:PV} {es:List (List PV)} (j:Sl q es) {t e:TypeId} (hu:P.underlying t=some (.slice e)) (H:List Mem):Zd5 P H t q=some (.int .i64 es.length):=by
 rcases j with⟨rfl,rfl⟩|rfl
 ·simp[Zd5,hu]
 ·simp[Zd5,hu]
theorem Sl.index {q:PV} {es:List (List PV)} (J:Sl q es) {t e:TypeId} {z:Nat} (hu:P.underlying t=some (.slice e)) (R:Za1 P e=some z) (H:List Mem) {k:IntKind} {j:Int} {c:List PV} (U:0≤j) (I:j<es.length) (hc:es[j.toNat]? =some c) (C:c.length=z):
 Zav P H t q (.int k j)=some (.box c 0):=by
 rcases J with⟨rfl,rfl⟩|rfl
 ·simp at I;omega
 ·simp only[Zav,hu,R,Xab]
  rw[if_pos ⟨U,I⟩,hc]
  simp[C]
end
end
end Go.Am
