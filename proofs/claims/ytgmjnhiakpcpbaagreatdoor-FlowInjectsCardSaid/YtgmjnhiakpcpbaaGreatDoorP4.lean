/-
 (large.Int).Text: its last part, in the kit's own calculus: the digits' texts put together by a strings.Builder.
-/
import Derived.Test.YtgmjnhiakpcpbaaGreatDoorP1
import Derived.Test.YtgmjnhiakpcpbaaGreatDoorDj
import Derived.Test.YtgmjnhiakpcpbaaGreatDoorHints
set_option linter.constructorNameAsVariable false
set_option linter.unusedSimpArgs false
set_option linter.unusedVariables false
namespace Go.Proofs.YtgmjnhiakpcpbaaGreatDoor
open Go.RowKit Go.Shelf Go.Lib Dv Go.Tx Go.Am Go.Sort
theorem Zfh {T e:TypeId} {B b:Nat} {bs:List Value} {w w':World} (h:Lib.IsBuilderF T e B b bs w) (hb:Below w.heap.size w w'):Lib.IsBuilderF T e B b bs w':=by
 have at_: ∀p,Lib.BuilderAtF T e B b p bs w→Lib.BuilderAtF T e B b p bs w':=by
  rintro p ⟨h1,v,h2,⟨h3,h4⟩,h5⟩
  have lt: ∀ (k:Nat) (o:Obj),w.heap[k]? =some o→w'.heap[k]? =some o:=fun k o hk=>by rw[hb.block k (Array.getElem?_eq_some_iff.1 hk).1];exact hk
  refine⟨h1,v,lt _ _ h2,⟨h3, ?_⟩,h5⟩
  rcases h4 with h4|⟨g,cap,cur,fz,h6,h7,h8,h9⟩
  ·exact .inl h4
  ·exact .inr ⟨g,cap,cur,fz,h6,h7,lt _ _ h8,h9⟩
 exact h.imp (at_ _) (at_ _)
theorem ZfT (w:World) (k:Nat) (os:Array Obj):Below w.heap.size w (grow (w.drewN k) os):=
 ⟨rfl,rfl,rfl,by simp[grow],fun i hi=>by simp only[grow,World.heap_drewN];rw[Array.getElem?_append_left hi]⟩
theorem Zof (a b:List UInt8):(⟨a.toArray⟩++⟨b.toArray⟩:ByteArray)=⟨(a++b).toArray⟩:=by
 apply ByteArray.ext
 simp
set_option maxHeartbeats 16000000 in
set_option maxRecDepth 1000000 in
theorem ZqJ (m:Bool) (ns:List Nat) (hne:ns≠ []) (h9: ∀p∈ns,p<1000000000) (hlen:ns.length≤300) (b1 o1 b4 o4 cap:Nat) (x0 x2 x3 x5 x6 x7 x8 x9 x10 x11 x12 x13 x14 x15 x16 x17 x18 x19 x20 x21 x22 x23 x24 x25 x26 x27 x28 x29 x30 x31 x32 x33 x34 x35 x36 x37 x38 x39 x40 x41 x42 x43 x44 x45 x46 x47 x48 x49 x50 x51 x52 x53 x54 x55 x56 x57 x58 x59 x60 x61 x62 x63 x64 x65 x66 x67 x68 x69 x70 x71:Value) (w1:World)
 (hb1:b1<w1.heap.size) (hb4:b4<w1.heap.size) (hm:w1.cell? ⟨b1,o1,none⟩=some (.bool m)) (hc: ∀j (hj:j<ns.length),w1.cell? ⟨b4,o4+j,none⟩=some (.int .u32 (ns[j]:Nat)))
 (g:Nat) (hg:Tryz.prog.globalNamed ZdT=some g) (hgs:g<w1.heap.size) (htab:Lib.TabIs Tryz.prog w1 ZdT .u64 Lib.pow10Tab):
 (ZjZ 5 (Zca Tryz.f151)).wp Tryz.prog (bodyPost Tryz.prog Tryz.f151 fun e w'=>e= .returned (.tuple #[.string ⟨((match m with|true=> [45]|false=> [])++Zbt ns).toArray⟩, .bool (Nat.ble (Zbt ns).length 2000)])∧Below w1.heap.size w1 w')
  ⟨((x0:: .pointer (some ⟨b1,o1,none⟩)::x2::x3:: .slice (some ⟨b4,o4,none⟩) ns.length cap::x5::x6::x7::x8::x9::x10::x11::x12::x13::x14::x15::x16::x17::x18::x19::x20::x21::x22::x23::x24::x25::x26::x27::x28::x29::x30::x31::x32::x33::x34::x35::x36::x37::x38::x39::x40::x41::x42::x43::x44::x45::x46::x47::x48::x49::x50::x51::x52::x53::x54::x55::x56::x57::x58::x59::x60::x61::x62::x63::x64::x65::x66::x67::x68::x69::x70::x71::[]):List Value).toArray,[]⟩ w1:=by
 conv=>arg 2;simp only[ZjZ,Zca,Tryz.f151]
 go_wp2
 go_loopw [9] (fun v wr=> ∃i:Nat,i≤ns.length∧v= .int .i64 ((i:Int)-1)∧Lib.IsBuilderF 230 5 w1.heap.size w1.heap.size (Lib.byteCells (Zbt (ns.drop i))) wr∧Below w1.heap.size w1 wr∧w1.heap.size≤wr.heap.size)
  (fun v _=>match v with| .int _ x=>(x+1).toNat|_=>0)
 case atStart=>
  refine⟨ns.length,Nat.le_refl _, ?_, ?_,(Below.refl _ w1).alloc (Nat.le_refl _) _,by simp⟩
  ·rfl
  ·rw[List.drop_length]
   exact Lib.IsBuilderF.of (Lib.fresh_isBuilder 230 5 w1)
 case round=>
  obtain⟨i,hi,rfl,hI,hbw,hsz⟩:=hrel
  rcases i with _|j
  ·rw[List.drop_zero]at hI
   have hjl:=ZgU ns h9
   go_wp2_with (go_at_call 165;refine(Zh0 w1.heap.size w1.heap.size (Zbt ns) _ hI hsz).mono ?_)
   rintro e W1 ⟨rfl,_,b1',_⟩
   have hbW:=hbw.trans b1'
   have hm':W1.cell? ⟨b1,o1,none⟩=some (.bool m):=(hbW.cell hb1).trans hm
   have hbl:decide (((Zbt ns).length:Int)≤2000)=Nat.ble (Zbt ns).length 2000:=by
    cases hb:Nat.ble (Zbt ns).length 2000 with
    |true=>have:=Nat.le_of_ble_eq_true hb;exact decide_eq_true (by omega)
    |false=>
     refine decide_eq_false fun h=> ?_
     rw[Nat.ble_eq_true_of_le (by omega)]at hb;cases hb
   cases m
   ·go_wp2
    go_ret2
    refine⟨?_,hbW⟩
    show Ending.returned (.tuple #[.string ⟨(Zbt ns).toArray⟩, .bool (Nat.ble (Zbt ns).length 2000)])=_
    rfl
   ·go_wp2
    go_ret2
    refine⟨?_,hbW⟩
    show Ending.returned (.tuple #[.string (⟨[45].toArray⟩++⟨(Zbt ns).toArray⟩), .bool (Nat.ble (Zbt ns).length 2000)])=_
    rw[Zof];rfl
  ·have hj:j<ns.length:=by omega
   obtain⟨p,hp⟩: ∃p,ns[j]=p:=⟨_,rfl⟩
   have hp9:p<1000000000:=hp▸h9 _ (List.getElem_mem hj)
   have hcx:wr.cell? ⟨b4,o4+j,none⟩=some (.int .u32 (p:Nat)):=by rw[hbw.cell hb4,hc j hj,hp]
   have htab':Lib.TabIs Tryz.prog wr ZdT .u64 Lib.pow10Tab:=ZmU hg (hbw.block g hgs) htab
   have hwr:IntKind.u64.wrap (p:Int)=p:=by rw[IntKind.wrap_u64];omega
   have hv9:(((j+1:Nat):Int)-1)=j:=by omega
   rw[hv9]
   have hdl:(decDigits p).length≤9:=(ZfX (by decide)).2 hp9
   have hdi:((decDigits p).length:Int)≤9:=by omega
   have hjl:=ZgU (ns.drop (j+1)) fun x hx=>h9 x (List.mem_of_mem_drop hx)
   rw[List.length_drop]at hjl
   have hdr:ns.drop j=p::ns.drop (j+1):=by rw[List.drop_eq_getElem_cons hj,hp]
   have hbg: ∀k os,Below w1.heap.size w1 (grow (wr.drewN k) os):=fun k os=>hbw.trans ((ZfT wr k os).mono hsz)
   by_cases hlast:j+1=ns.length
   ·have hnl: ¬ ((j:Int)<(ns.length:Int)-1):=by omega
    go_wp2_with (go_at_call 163;refine(Zpf p (by omega) _ htab').mono ?_;rintro e W1 ⟨rfl,k,os,rfl⟩)
    go_at_call 164
    refine(Zdz w1.heap.size w1.heap.size _ _ _ (Zfh hI (ZfT wr k os)) ?_ ?_).mono ?_
    ·rw[Lib.byteCells_length]
     show _+(decDigits p).toArray.size≤_
     rw[List.size_toArray];omega
    ·exact(hbg k os).size
    rintro e W2 ⟨rfl,h2,b2,_⟩
    go_wp2
    go_roundw
    case rel=>
     refine⟨j,by omega,by go_num, ?_,(hbg k os).trans b2,((hbg k os).trans b2).size⟩
     refine Or.inr ?_
     have e:Zbt (ns.drop j)=Zbt (ns.drop (j+1))++decDigits p:=by
      rw[hdr,hlast,List.drop_length];rfl
     rw[e,Lib.byteCells_append]
     exact h2
    case measure=>
     show((j:Int)-1+1).toNat<((j:Int)+1).toNat
     omega
   ·have hnl:((j:Int)<(ns.length:Int)-1):=by omega
    go_wp2_with (go_at_call 163;refine(Zpf p (by omega) _ htab').mono ?_;rintro e W1 ⟨rfl,k,os,rfl⟩)
    have hz: ∀L,L≤9→(⟨#[48,48,48,48,48,48,48,48,48]⟩:ByteArray).extract L 9=⟨(List.replicate (9-L) 48).toArray⟩:=by
     intro L hL
     have: ∀L:Fin 10,(⟨#[48,48,48,48,48,48,48,48,48]⟩:ByteArray).extract L.val 9=⟨(List.replicate (9-L.val) 48).toArray⟩:=by decide+kernel
     exact this ⟨L,by omega⟩
    rw[hz _ hdl]
    go_at_call 164
    refine(Zdz w1.heap.size w1.heap.size _ _ _ (Zfh hI (ZfT wr k os)) ?_ ?_).mono ?_
    ·rw[Lib.byteCells_length]
     show _+(List.replicate (9-(decDigits p).length) (48:UInt8)).toArray.size≤_
     rw[List.size_toArray,List.length_replicate];omega
    ·exact(hbg k os).size
    rintro e W2 ⟨rfl,h2,b2,_⟩
    have e2:Lib.byteCells (Zbt (ns.drop (j+1)))++Lib.strCells ⟨(List.replicate (9-(decDigits p).length) (48:UInt8)).toArray⟩=Lib.byteCells (Zbt (ns.drop (j+1))++List.replicate (9-(decDigits p).length) 48):=by
     rw[Lib.byteCells_append];rfl
    rw[e2]at h2
    have hb2:=(hbg k os).trans b2
    go_wp2_with (go_at_call 164;refine(Zdz w1.heap.size w1.heap.size _ _ _ (Or.inr h2) ?_ hb2.size).mono ?_)
    ·rw[Lib.byteCells_length,List.length_append,List.length_replicate]
     show _+(decDigits p).toArray.size≤_
     rw[List.size_toArray];omega
    rintro e W3 ⟨rfl,h3,b3,_⟩
    go_wp2
    go_roundw
    case rel=>
     refine⟨j,by omega,by go_num, ?_,hb2.trans b3,(hb2.trans b3).size⟩
     refine Or.inr ?_
     have e:Zbt (ns.drop j)=(Zbt (ns.drop (j+1))++List.replicate (9-(decDigits p).length) 48)++decDigits p:=by
      rw[hdr,ZnL p (by rw[ne_eq,List.drop_eq_nil_iff];omega),Zqf,List.append_assoc]
     rw[e,Lib.byteCells_append]
     exact h3
    case measure=>
     show((j:Int)-1+1).toNat<((j:Int)+1).toNat
     omega
end Go.Proofs.YtgmjnhiakpcpbaaGreatDoor
