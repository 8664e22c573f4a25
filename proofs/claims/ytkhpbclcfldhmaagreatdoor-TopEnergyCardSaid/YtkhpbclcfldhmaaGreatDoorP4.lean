/-
 (large.Int).Text: its last part, in the kit's own calculus: the digits' texts put together by a strings.Builder.
-/
import Derived.Test.YtkhpbclcfldhmaaGreatDoorP1
import Derived.Test.YtkhpbclcfldhmaaGreatDoorT3
set_option linter.constructorNameAsVariable false
set_option linter.unusedSimpArgs false
set_option linter.unusedVariables false
namespace Go.Proofs.YtkhpbclcfldhmaaGreatDoor
open Go.RowKit Go.Shelf Go.Lib Dv Go.Tx Go.Am Go.Sort
theorem ZfG {T e:TypeId} {B b:Nat} {bs:List Value} {w w':World} (h:Lib.IsBuilderF T e B b bs w) (hb:Below w.heap.size w w'):Lib.IsBuilderF T e B b bs w':=by
 have at_: ∀p,Lib.BuilderAtF T e B b p bs w→Lib.BuilderAtF T e B b p bs w':=by
  rintro p ⟨h1,v,h2,⟨h3,h4⟩,h5⟩
  have lt: ∀ (k:Nat) (o:Obj),w.heap[k]? =some o→w'.heap[k]? =some o:=fun k o hk=>by rw[hb.block k (Array.getElem?_eq_some_iff.1 hk).1];exact hk
  refine⟨h1,v,lt _ _ h2,⟨h3, ?_⟩,h5⟩
  rcases h4 with h4|⟨g,cap,cur,fz,h6,h7,h8,h9⟩
  ·exact .inl h4
  ·exact .inr ⟨g,cap,cur,fz,h6,h7,lt _ _ h8,h9⟩
 exact h.imp (at_ _) (at_ _)
theorem Zg2 (w:World) (k:Nat) (os:Array Obj):Below w.heap.size w (grow (w.drewN k) os):=
 ⟨rfl,rfl,rfl,by simp[grow],fun i hi=>by simp only[grow,World.heap_drewN];rw[Array.getElem?_append_left hi]⟩
theorem ZsJ (a b:List UInt8):(⟨a.toArray⟩++⟨b.toArray⟩:ByteArray)=⟨(a++b).toArray⟩:=by
 apply ByteArray.ext
 simp
set_option maxHeartbeats 16000000 in
set_option maxRecDepth 1000000 in
theorem ZuG (m:Bool) (ns:List Nat) (hne:ns≠ []) (h9: ∀p∈ns,p<1000000000) (hlen:ns.length≤300) (b1 o1 b4 o4 cap:Nat) (x0 x2 x3 x5 x6 x7 x8 x9 x10 x11 x12 x13 x14 x15 x16 x17 x18 x19 x20 x21 x22 x23 x24 x25 x26 x27 x28 x29 x30 x31 x32 x33 x34 x35 x36 x37 x38 x39 x40 x41 x42 x43 x44 x45 x46 x47 x48 x49 x50 x51 x52 x53 x54 x55 x56 x57 x58 x59 x60 x61 x62 x63 x64 x65 x66 x67 x68 x69 x70 x71:Value) (w1:World)
 (hb1:b1<w1.heap.size) (hb4:b4<w1.heap.size) (hm:w1.cell? ⟨b1,o1,none⟩=some (.bool m)) (hc: ∀j (hj:j<ns.length),w1.cell? ⟨b4,o4+j,none⟩=some (.int .u32 (ns[j]:Nat)))
 (g:Nat) (hg:Tryz.prog.globalNamed ZeB=some g) (hgs:g<w1.heap.size) (htab:Lib.TabIs Tryz.prog w1 ZeB .u64 Lib.pow10Tab):
 (Zsp 5 (Zdg Tryz.f61)).wp Tryz.prog (bodyPost Tryz.prog Tryz.f61 fun e w'=>e= .returned (.tuple #[.string ⟨((match m with|true=> [45]|false=> [])++ZbB ns).toArray⟩, .bool (Nat.ble (ZbB ns).length 2000)])∧Below w1.heap.size w1 w')
  ⟨((x0:: .pointer (some ⟨b1,o1,none⟩)::x2::x3:: .slice (some ⟨b4,o4,none⟩) ns.length cap::x5::x6::x7::x8::x9::x10::x11::x12::x13::x14::x15::x16::x17::x18::x19::x20::x21::x22::x23::x24::x25::x26::x27::x28::x29::x30::x31::x32::x33::x34::x35::x36::x37::x38::x39::x40::x41::x42::x43::x44::x45::x46::x47::x48::x49::x50::x51::x52::x53::x54::x55::x56::x57::x58::x59::x60::x61::x62::x63::x64::x65::x66::x67::x68::x69::x70::x71::[]):List Value).toArray,[]⟩ w1:=by
 conv=>arg 2;simp only[Zsp,Zdg,Tryz.f61]
 go_wp2
 go_loopw [9] (fun v wr=> ∃i:Nat,i≤ns.length∧v= .int .i64 ((i:Int)-1)∧Lib.IsBuilderF 152 5 w1.heap.size w1.heap.size (Lib.byteCells (ZbB (ns.drop i))) wr∧Below w1.heap.size w1 wr∧w1.heap.size≤wr.heap.size)
  (fun v _=>match v with| .int _ x=>(x+1).toNat|_=>0)
 case atStart=>
  refine⟨ns.length,Nat.le_refl _, ?_, ?_,(Below.refl _ w1).alloc (Nat.le_refl _) _,by simp⟩
  ·rfl
  ·rw[List.drop_length]
   exact Lib.IsBuilderF.of (Lib.fresh_isBuilder 152 5 w1)
 case round=>
  obtain⟨i,hi,rfl,hI,hbw,hsz⟩:=hrel
  rcases i with _|j
  ·rw[List.drop_zero]at hI
   have hjl:=Zii ns h9
   go_wp2_with (go_at_call 80;refine(Zjj w1.heap.size w1.heap.size (ZbB ns) _ hI hsz).mono ?_)
   rintro e W1 ⟨rfl,_,b1',_⟩
   have hbW:=hbw.trans b1'
   have hm':W1.cell? ⟨b1,o1,none⟩=some (.bool m):=(hbW.cell hb1).trans hm
   have hbl:decide (((ZbB ns).length:Int)≤2000)=Nat.ble (ZbB ns).length 2000:=by
    cases hb:Nat.ble (ZbB ns).length 2000 with
    |true=>have:=Nat.le_of_ble_eq_true hb;exact decide_eq_true (by omega)
    |false=>
     refine decide_eq_false fun h=> ?_
     rw[Nat.ble_eq_true_of_le (by omega)]at hb;cases hb
   cases m
   ·go_wp2
    go_ret2
    refine⟨?_,hbW⟩
    show Ending.returned (.tuple #[.string ⟨(ZbB ns).toArray⟩, .bool (Nat.ble (ZbB ns).length 2000)])=_
    rfl
   ·go_wp2
    go_ret2
    refine⟨?_,hbW⟩
    show Ending.returned (.tuple #[.string (⟨[45].toArray⟩++⟨(ZbB ns).toArray⟩), .bool (Nat.ble (ZbB ns).length 2000)])=_
    rw[ZsJ];rfl
  ·have hj:j<ns.length:=by omega
   obtain⟨p,hp⟩: ∃p,ns[j]=p:=⟨_,rfl⟩
   have hp9:p<1000000000:=hp▸h9 _ (List.getElem_mem hj)
   have hcx:wr.cell? ⟨b4,o4+j,none⟩=some (.int .u32 (p:Nat)):=by rw[hbw.cell hb4,hc j hj,hp]
   have htab':Lib.TabIs Tryz.prog wr ZeB .u64 Lib.pow10Tab:=Zo0 hg (hbw.block g hgs) htab
   have hwr:IntKind.u64.wrap (p:Int)=p:=by rw[IntKind.wrap_u64];omega
   have hv9:(((j+1:Nat):Int)-1)=j:=by omega
   rw[hv9]
   have hdl:(decDigits p).length≤9:=(ZcP (by decide)).2 hp9
   have hdi:((decDigits p).length:Int)≤9:=by omega
   have hjl:=Zii (ns.drop (j+1)) fun x hx=>h9 x (List.mem_of_mem_drop hx)
   rw[List.length_drop]at hjl
   have hdr:ns.drop j=p::ns.drop (j+1):=by rw[List.drop_eq_getElem_cons hj,hp]
   have hbg: ∀k os,Below w1.heap.size w1 (grow (wr.drewN k) os):=fun k os=>hbw.trans ((Zg2 wr k os).mono hsz)
   by_cases hlast:j+1=ns.length
   ·have hnl: ¬ ((j:Int)<(ns.length:Int)-1):=by omega
    go_wp2_with (go_at_call 78;refine(Zsk p (by omega) _ htab').mono ?_;rintro e W1 ⟨rfl,k,os,rfl⟩)
    go_at_call 79
    refine(Zed w1.heap.size w1.heap.size _ _ _ (ZfG hI (Zg2 wr k os)) ?_ ?_).mono ?_
    ·rw[Lib.byteCells_length]
     show _+(decDigits p).toArray.size≤_
     rw[List.size_toArray];omega
    ·exact(hbg k os).size
    rintro e W2 ⟨rfl,h2,b2,_⟩
    go_wp2
    go_roundw
    case rel=>
     refine⟨j,by omega,by go_num, ?_,(hbg k os).trans b2,((hbg k os).trans b2).size⟩
     refine Or.inr ?_
     have e:ZbB (ns.drop j)=ZbB (ns.drop (j+1))++decDigits p:=by
      rw[hdr,hlast,List.drop_length];rfl
     rw[e,Lib.byteCells_append]
     exact h2
    case measure=>
     show((j:Int)-1+1).toNat<((j:Int)+1).toNat
     omega
   ·have hnl:((j:Int)<(ns.length:Int)-1):=by omega
    go_wp2_with (go_at_call 78;refine(Zsk p (by omega) _ htab').mono ?_;rintro e W1 ⟨rfl,k,os,rfl⟩)
    have hz: ∀L,L≤9→(⟨#[48,48,48,48,48,48,48,48,48]⟩:ByteArray).extract L 9=⟨(List.replicate (9-L) 48).toArray⟩:=by
     intro L hL
     have: ∀L:Fin 10,(⟨#[48,48,48,48,48,48,48,48,48]⟩:ByteArray).extract L.val 9=⟨(List.replicate (9-L.val) 48).toArray⟩:=by decide+kernel
     exact this ⟨L,by omega⟩
    rw[hz _ hdl]
    go_at_call 79
    refine(Zed w1.heap.size w1.heap.size _ _ _ (ZfG hI (Zg2 wr k os)) ?_ ?_).mono ?_
    ·rw[Lib.byteCells_length]
     show _+(List.replicate (9-(decDigits p).length) (48:UInt8)).toArray.size≤_
     rw[List.size_toArray,List.length_replicate];omega
    ·exact(hbg k os).size
    rintro e W2 ⟨rfl,h2,b2,_⟩
    have e2:Lib.byteCells (ZbB (ns.drop (j+1)))++Lib.strCells ⟨(List.replicate (9-(decDigits p).length) (48:UInt8)).toArray⟩=Lib.byteCells (ZbB (ns.drop (j+1))++List.replicate (9-(decDigits p).length) 48):=by
     rw[Lib.byteCells_append];rfl
    rw[e2]at h2
    have hb2:=(hbg k os).trans b2
    go_wp2_with (go_at_call 79;refine(Zed w1.heap.size w1.heap.size _ _ _ (Or.inr h2) ?_ hb2.size).mono ?_)
    ·rw[Lib.byteCells_length,List.length_append,List.length_replicate]
     show _+(decDigits p).toArray.size≤_
     rw[List.size_toArray];omega
    rintro e W3 ⟨rfl,h3,b3,_⟩
    go_wp2
    go_roundw
    case rel=>
     refine⟨j,by omega,by go_num, ?_,hb2.trans b3,(hb2.trans b3).size⟩
     refine Or.inr ?_
     have e:ZbB (ns.drop j)=(ZbB (ns.drop (j+1))++List.replicate (9-(decDigits p).length) 48)++decDigits p:=by
      rw[hdr,Zqs p (by rw[ne_eq,List.drop_eq_nil_iff];omega),Ztd,List.append_assoc]
     rw[e,Lib.byteCells_append]
     exact h3
    case measure=>
     show((j:Int)-1+1).toNat<((j:Int)+1).toNat
     omega
end Go.Proofs.YtkhpbclcfldhmaaGreatDoor
/-
 The first loop of (large.Int).Text: the digits to the base 10^9.
-/
namespace Go.Proofs.YtkhpbclcfldhmaaGreatDoor
open Go.Am Go.Tx Dv
set_option maxRecDepth 100000
noncomputable def ZoJ:Am.Hints:=Zpj fun _=>none
def ZsM (ns:List Nat):List Int:=ns.map fun n:Nat=>(n:Int)
theorem ZrB {k:Nat} {A:Int} (h:(1000000000:Int)^k≤A) (hA:A<4294967296^210):k≤299:=by
 rcases Nat.lt_or_ge k 300 with h1|h1
 ·omega
 ·have h3:(1000000000:Int)^300≤1000000000^k:=ZgC (b:=1000000000) (by decide) h1
  have h4:(4294967296:Int)^210<1000000000^300:=by decide+kernel
  exact absurd (Int.lt_of_lt_of_le h4 (Int.le_trans h3 (Int.le_trans h (Int.le_of_lt hA)))) (Int.lt_irrefl _)
def ZxB (a:List Int) (ns:List Nat):Prop:=(a≠ []→ns≠ [])∧(∀p∈ns,p<1000000000)∧(2≤ns.length→ns.getLast?≠some 0)∧(pvN ns:Int)=wv a∧ns.length≤300
set_option maxHeartbeats 4000000 in
theorem Zt3 (m:Bool) (a:List Int) (ha:Wd a) (hl:a.length≤210):LoopOK Tryz.prog ZoJ 0 ⟨61,0,72⟩ (Zbw Tryz.f61 7) [(1, .ptr 0 0 0),(4, .nils),(5,Za8 a)] [.cell [.v .b m,Za8 a] true]
 (fun e tm hp=>e= .exit 0∧ ∃ns,ZxB a ns∧ZcR 1 tm=some (.ptr 0 0 0)∧ZcR 4 tm=some (.ref 1 0 ns.length none)∧hp=[.cell [.v .b m,Za8 a] true, .row (.i .u32) (ZsM ns) true]):=by
 refine Zaz Zah rfl (fun(s:List Nat×List Int)=> [(1, .ptr 0 0 0),(4, .ref 1 0 s.1.length none),(5,Za8 s.2)]) (fun s=> [.cell [.v .b m,Za8 a] true, .row (.i .u32) (ZsM s.1) true])
  (fun s=>Wd s.2∧s.2.length≤210∧(s.1=[]→s.2=a)∧(s.1≠ []→Nz s.2)∧(∀p∈s.1,p<1000000000)∧(wv s.2=0→2≤s.1.length→s.1.getLast?≠some 0)∧(pvN s.1:Int)+1000000000^s.1.length*wv s.2=wv a∧s.1.length≤300) (fun s=>(wv s.2).toNat+s.2.length) ?_ ([],a) ?_ ?_
 ·rintro⟨ns,cur⟩ ⟨hw,hcl,h1,h2,h3,h4,hval,hn3⟩
  simp only at hw hcl h1 h2 h3 h4 hval hn3
  refine And.intro (fun h=> ?_) (fun h=> ?_)
  ·have hne:cur≠ []:=by
    rintro rfl
    have h':(0:Int)<(([]:List Int).length:Int):=of_decide_eq_true h
    simp at h'
   have hcb:=Za7 hw
   have hr0:0≤wv cur % 1000000000:=Int.emod_nonneg _ (by decide)
   have hr1:wv cur % 1000000000<1000000000:=Int.emod_lt_of_pos _ (by decide)
   obtain⟨r,hr⟩: ∃r:Nat,wv cur % 1000000000=r:=⟨(wv cur % 1000000000).toNat,by omega⟩
   have hab:=Za7 ha
   have hA:wv a<4294967296^210:=Int.lt_of_lt_of_le hab.2 (ZgC (b:=4294967296) (by decide) hl)
   have hnl:ns.length≤299:=by
    by_cases hns:ns=[]
    ·subst hns;simp
    ·have h5:=Zmr hw (h2 hns) hne
     refine ZrB (A:=wv a) ?_ hA
     have h6:(1000000000:Int)^ns.length*1≤1000000000^ns.length*wv cur:=Int.mul_le_mul_of_nonneg_left (by omega) (Int.le_of_lt (Int.pow_pos (by decide)))
     omega
   have hil:(ZsM ns).length=ns.length:=by simp[ZsM]
   refine(Zjr _ rfl cur 1000000000 hw (by decide) (by decide) (by omega)).mono ?_
   rintro _ ⟨q,rfl,hq1,hq2,hq3⟩
   refine And.intro (by show 0+1≤1;decide) ?_
   refine And.intro (by show 0+ns.length≤(ZsM ns).length;omega) ?_
   refine And.intro (by show(ns.length+(0+1))*4≤_;omega) ?_
   refine(Zvo _ rfl false q hq1 (by omega)).mono ?_
   rintro _ ⟨s,rfl,hs1,hs2,hs3,hs4⟩
   have hsb:=Za7 hs1
   have e1:wv s=wv cur/1000000000:=by rw[hs4,hq3]
   have e2:ZsM (ns++ [r])=sub (ZsM ns) 0 ns.length++ [wv cur % 1000000000]:=by
    rw[sub,List.drop_zero,List.take_of_length_le (by omega),hr];simp[ZsM]
   refine⟨(ns++ [r],s),⟨hs1, ?_, ?_, ?_, ?_, ?_, ?_, ?_⟩, ?_, ?_⟩
   ·show s.length≤210;omega
   ·intro h;simp at h
   ·intro _;exact hs2
   ·intro p hp
    rcases List.mem_append.1 hp with hp|hp
    ·exact h3 p hp
    ·rw[List.mem_singleton.1 hp];omega
   ·intro h0 h2'
    have h0:wv s=0:=h0
    rw[List.getLast?_concat]
    have hns:ns≠ []:=by rintro rfl;simp at h2'
    have:=Zmr hw (h2 hns) hne
    intro e
    cases e
    omega
   ·show(pvN (ns++ [r]):Int)+1000000000^(ns++ [r]).length*wv s=wv a
    have e5:((pvN (ns++ [r]):Nat):Int)=pvN ns+1000000000^ns.length*(r:Int):=by
     rw[Zrj,Int.natCast_add,Int.natCast_mul,Int.natCast_pow];rfl
    rw[e5,List.length_append,List.length_singleton,Int.pow_succ,e1,←hval]
    have e3:=Int.emod_add_mul_ediv (wv cur) 1000000000
    rw[hr]at e3
    have e4:(1000000000:Int)^ns.length*wv cur=1000000000^ns.length*(r:Int)+1000000000^ns.length*1000000000*(wv cur/1000000000):=by
     rw[←e3,Int.mul_add,Int.mul_assoc,e3]
    rw[e4];omega
   ·show(ns++ [r]).length≤300
    simp;omega
   ·show(wv s).toNat+s.length<(wv cur).toNat+cur.length
    have hcl1:1≤cur.length:=by
     cases cur with
     |nil=>exact absurd rfl hne
     |cons x l=>simp
    by_cases hz:wv cur=0
    ·have hs:s=[]:=by
      rcases s with _|⟨x,l⟩
      ·rfl
      ·have:=Zmr hs1 hs2 (by simp)
       omega
     subst hs
     simp[wv];omega
    ·omega
   ·refine ZaC rfl rfl ?_ ?_
    ·exact⟨⟨rfl,rfl⟩,⟨rfl,(by simp:(ns++ [r]).length=ns.length+1),(by simp:(ns++ [r]).length=ns.length+1)⟩,rfl,trivial⟩
    ·exact⟨⟨⟨rfl,rfl,trivial⟩,fun _=>rfl⟩,⟨e2,fun _=>rfl⟩,trivial⟩
  ·have hc0:cur=[]:=by
    cases cur with
    |nil=>rfl
    |cons x r=>
     have h': ¬ (0:Int)<((x::r).length:Int):=of_decide_eq_false h
     simp at h'
   subst hc0
   refine⟨rfl,ns,⟨?_,h3,fun h2'=>h4 rfl h2', ?_, ?_⟩,rfl,rfl,rfl⟩
   ·exact fun hane hns=>hane (h1 hns).symm
   ·simpa[wv]using hval
   ·exact hn3
 ·exact⟨ha,hl,fun _=>rfl,fun h=>absurd rfl h,fun p hp=>by simp at hp,fun _ h=>by simp at h,by simp[pvN],by simp⟩
 ·refine ZaC rfl rfl ?_ ?_
  ·exact⟨⟨rfl,rfl⟩,⟨rfl,rfl,rfl⟩,rfl,trivial⟩
  ·exact⟨⟨⟨rfl,rfl,trivial⟩,fun _=>rfl⟩,rfl,trivial⟩
def ZyS (m:Bool) (a:List Int) (e:Ex) (tm:TM) (hp:List SM):Prop:=
 (e= .ret∧ ∃s f,ZcR 2 tm=some (.v .s s)∧ZcR 3 tm=some (.v .b f)∧s=Zc8 m a∧f=ZcA a)∨
 (e= .normal∧a≠ []∧a.length≤210∧ ∃ns,ZxB a ns∧ZcR 1 tm=some (.ptr 0 0 0)∧ZcR 4 tm=some (.ref 1 0 ns.length none)∧hp=[.cell [.v .b m,Za8 a] true, .row (.i .u32) (ZsM ns) true])
set_option maxHeartbeats 4000000 in
theorem Zwd (m:Bool) (a:List Int) (ha:Wd a):wp Tryz.prog ZoJ tys 0 ⟨61,0,72⟩ (Zvh 5 (Zdg Tryz.f61)) (ZcB 0 [.agg [.v .b m,Za8 a]]) [] (ZyS m a):=by
 refine And.intro rfl ?_
 refine And.intro (fun h=> ?_) (fun h=> ?_)
 ·have he:a=[]:=by
   have h':(a.length:Int)=0:=of_decide_eq_true h
   exact List.length_eq_zero_iff.1 (by omega)
  subst he
  exact .inl ⟨rfl,_,_,rfl,rfl,rfl,rfl⟩
 ·have hne:a≠ []:=by
   rintro rfl
   exact absurd rfl (of_decide_eq_false h: ¬ (([]:List Int).length:Int)=0)
  have he:a.isEmpty=false:=by simpa using hne
  refine And.intro rfl ?_
  refine And.intro (fun h2=> ?_) (fun h2=> ?_)
  ·have hl:210<a.length:=by
    have h':(210:Int)<(a.length:Int):=of_decide_eq_true h2
    omega
   have hb:Nat.ble a.length 210=false:=by
    cases hb:Nat.ble a.length 210 with
    |false=>rfl
    |true=>have:=Nat.le_of_ble_eq_true hb;omega
   exact .inl ⟨rfl,_,_,rfl,rfl,by simp only[Zc8,he,hb],by simp only[ZcA,he,hb]⟩
  ·have hl:a.length≤210:=by
    have h': ¬ (210:Int)<(a.length:Int):=of_decide_eq_false h2
    omega
   refine And.intro rfl ?_
   refine((Zt3 m a ha hl).ent ?_).mono ?_
   ·refine ZaC rfl rfl ?_ ?_
    ·exact⟨⟨rfl,rfl⟩,trivial,rfl,trivial⟩
    ·exact⟨⟨⟨rfl,rfl,trivial⟩,fun _=>rfl⟩,trivial⟩
   ·rintro e tm hp ⟨rfl,ns,h3,h4,h5,h6⟩
    exact .inr ⟨rfl,hne,hl,ns,h3,h4,h5,h6⟩
end Go.Proofs.YtkhpbclcfldhmaaGreatDoor
