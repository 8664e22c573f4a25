/-
 stringslite.Index at a text of one byte: a primitive.
-/
import Derived.Test.YtgmjnhiakpcpbaaGreatDoorSh
import Derived.Test.YtgmjnhiakpcpbaaGreatDoorHints
import Derived.Test.YtgmjnhiakpcpbaaGreatDoorDj
import Derived.Maps.RangeRun
set_option linter.constructorNameAsVariable false
set_option linter.unusedSimpArgs false
set_option linter.unusedVariables false
namespace Go.Proofs.YtgmjnhiakpcpbaaGreatDoor
open Go.Shelf Go.RowKit Dv Go.Am
theorem ZgM: ∀qs v,indexG qs=some v→ ∀ (S:Nat→Prop) w vals,(∀b,S b→b<w.heap.size)→Laid.ok S w→LRel w S qs vals→
 Calls Tryz.prog 111 vals.toArray w fun e w'=> ∃u,e= .returned u∧Below w.heap.size w w'∧IRel w' (fun b=>S b∨(w.heap.size≤b∧b<w'.heap.size)) v u:=by
 intro qs v hv S w vals hS hL hr
 unfold indexG at hv
 split at hv
 ·rename_i s t
  split at hv
  ·rename_i c hc
   cases hv
   simp only[LRel,IRel]at hr
   obtain⟨_,_,rfl,rfl,_,_,rfl,rfl,rfl⟩:=hr
   have ht:t=⟨#[c]⟩:=by
    cases t with
    |mk d=>
     have h1:d.toList=[c]:=hc
     have h2:d= #[c]:=by rw[←Array.toList_inj,h1]
     rw[h2]
   subst ht
   refine(Any.stringslite_Index_one Tryz.lays219 s c w).mono ?_
   rintro e w' ⟨rfl,rfl⟩
   refine⟨_,rfl,Below.refl _ _, ?_⟩
   rw[ZuC]
   simp only[IRel]
  ·cases hv
 ·cases hv
end Go.Proofs.YtgmjnhiakpcpbaaGreatDoor
/-
 flow.Check as a primitive: its first part run by the evaluator.
-/
namespace Go.Proofs.YtgmjnhiakpcpbaaGreatDoor
open Go.Am Go.Tx
noncomputable def ZmY (s:St):Option PV:=match get s.tm 7 with
 |some (.map id)=>match s.hp[id]? with
  |some (.map [(_, .int .i64 v)])=>some (.int .i64 (bif decide (v=0)then 0 else 14))
  |_=>none
 |_=>none
noncomputable def ZmN (qs:List PV):Option PV:=bif !Nat.ble qs.length 61 then none else match(Zch Tryz.prog Zf2 500).ex ⟨40,0,61⟩ (Znq 6 (Zca Tryz.f40)) ⟨ZbM 0 qs,[]⟩with
 |some (.normal,s)=>ZmY s
 |_=>none
noncomputable def ZmE:FuncId→Option (List PV→Option PV)
 |40=>some ZmN
 |151=>some Dv.textG
 |86=>some Dv.parseG
 |111=>some Dv.indexG
 |_=>none
noncomputable def Zj6:Hints:=withPrims Zf2 ZmE
def sS (l:List UInt8):PV:= .str ⟨l.toArray⟩
def iI (n:Int):PV:= .int .i64 n
def ZnM:PV:= .agg [.lst [[sS [65]],[sS [66]],[sS [67]]], .lst [[sS [83],sS [65],sS [66], .bool false, .bool false]],
 .lst [[sS [76,49],sS [65],sS [67],iI 1000,iI 1000,iI 0,iI 10,iI 20,iI 60],[sS [76,50],sS [65],sS [67],iI 1000,iI 1000,iI 0,iI 10,iI 20,iI 60]],
 .lst [[sS [71],sS [66],iI 1,iI 30,iI 5]], .lst [[sS [68],sS [67],iI 8]], .nils]
def Zng:PV:= .lst [[iI 0],[iI 8],[iI (-8)]]
def Zs1:PV:= .agg [.lst [[sS [48]],[sS [45,52]]], .lst [[sS [52]],[sS [52]]]]
def Zst:PV:= .agg [.lst [[sS [48]],[sS [45,52]]], .lst [[sS [53]],[sS [52]]]]
noncomputable def Zu0:List PV→Option PV
 | [n,p,s]=>bif Zeo n ZnM&&(Zeo p Zng&&Zeo s Zs1)then some (iI 0)else bif Zeo n ZnM&&(Zeo p Zng&&Zeo s Zst)then some (iI 21)else none
 |_=>none
noncomputable def ZmM:FuncId→Option (List PV→Option PV)
 |40=>some ZmN
 |151=>some Dv.textG
 |86=>some Dv.parseG
 |111=>some Dv.indexG
 |38=>some Zu0
 |_=>none
noncomputable def ZpK:Hints:=withPrims Zf2 ZmM
def Zhi (z:Int):Option (PV×List Mem)→Bool
 |some (.int .i64 n,_)=>decide (n=z)
 |_=>false
end Go.Proofs.YtgmjnhiakpcpbaaGreatDoor
/-
 flow.Check: its last part, in the kit's own calculus: the range over a map of one key.
-/
namespace Go.Proofs.YtgmjnhiakpcpbaaGreatDoor
open Go.RowKit Go.Tx Go.Am
open Go.ChangeMaps (setBlock)
theorem ZqE {P:Program} {w:World} {r b since c0 clock:Nat} {e:MapEntry} (ty:TypeId) (hr:w.heap[r]? =some (.mapIter (some b) since #[] c0)) (hb:w.heap[b]? =some (.map #[e] clock)) (hold:e.born<since):
 (Instr.next (.pointer (some ⟨r,0,none⟩)) false ty).run P w= .ok (.tuple #[.bool true,e.key,e.val]) (setBlock w r (.mapIter (some b) since #[e.born] clock)):=by
 have h1: ¬since≤e.born:=by omega
 simp[Instr.next,getObj,Sem.run_bind,Sem.run,hr,hb,Result.andThen,hold,h1,choose,Question.forced,setObj,setBlock]
theorem Zp7 {P:Program} {w:World} {r b since c0 clock:Nat} {e:MapEntry} (ty:TypeId) (hr:w.heap[r]? =some (.mapIter (some b) since #[e.born] c0)) (hb:w.heap[b]? =some (.map #[e] clock)) (hold:e.born<c0):
 (Instr.next (.pointer (some ⟨r,0,none⟩)) false ty).run P w= .ok (.tuple #[.bool false]) w:=by
 have h1: ¬c0≤e.born:=by omega
 simp[Instr.next,getObj,Sem.run_bind,Sem.run,hr,hb,Result.andThen,h1,choose,Question.forced]
set_option maxHeartbeats 16000000 in
set_option maxRecDepth 1000000 in
theorem ZpT (b clock:Nat) (e:MapEntry) (v:Int) (x0 x1 x2 x3 x4 x5 x6 x8 x9 x10 x11 x12 x13 x14 x15 x16 x17 x18 x19 x20 x21 x22 x23 x24 x25 x26 x27 x28 x29 x30 x31 x32 x33 x34 x35 x36 x37 x38 x39 x40 x41 x42 x43 x44 x45 x46 x47 x48 x49 x50 x51 x52 x53 x54 x55 x56 x57 x58 x59 x60:Value) (w1:World) (hb:w1.heap[b]? =some (.map #[e] clock)) (hborn:e.born<clock) (hv:e.val= .int .i64 v):
 (ZjZ 6 (Zca Tryz.f40)).wp Tryz.prog (bodyPost Tryz.prog Tryz.f40 fun e' w'=>e'= .returned (.int .i64 (bif decide (v=0)then 0 else 14))∧Below w1.heap.size w1 w')
  ⟨(x0::x1::x2::x3::x4::x5::x6:: .map (some b)::x8::x9::x10::x11::x12::x13::x14::x15::x16::x17::x18::x19::x20::x21::x22::x23::x24::x25::x26::x27::x28::x29::x30::x31::x32::x33::x34::x35::x36::x37::x38::x39::x40::x41::x42::x43::x44::x45::x46::x47::x48::x49::x50::x51::x52::x53::x54::x55::x56::x57::x58::x59::x60::[]).toArray,[]⟩ w1:=by
 conv=>arg 2;simp only[ZjZ,Zca,Tryz.f40]
 have hbl:b<w1.heap.size:=(Array.getElem?_eq_some_iff.1 hb).1
 obtain⟨w2,ew2⟩: ∃w2,w1.alloc (.mapIter (some b) clock #[] clock)=w2:=⟨_,rfl⟩
 have hrg:=run_range_map (P:=Tryz.prog) w1 139 3 3 b #[e] clock Tryz.underlying139 hb
 rw[ew2]at hrg
 have r2:w2.heap[w1.heap.size]? =some (.mapIter (some b) clock #[] clock):=by rw[←ew2];exact(MapKept.heap_alloc w1 _).1
 have b2:w2.heap[b]? =some (.map #[e] clock):=by rw[←ew2];exact((MapKept.heap_alloc w1 _).2 b hbl).trans hb
 have hnx:=fun ty=>ZqE (P:=Tryz.prog) ty r2 b2 hborn
 obtain⟨w3,ew3⟩: ∃w3,setBlock w2 w1.heap.size (.mapIter (some b) clock #[e.born] clock)=w3:=⟨_,rfl⟩
 rw[ew3,hv]at hnx
 have hne:w1.heap.size≠b:=by omega
 have hs2:w1.heap.size<w2.heap.size:=(Array.getElem?_eq_some_iff.1 r2).1
 have r3:w3.heap[w1.heap.size]? =some (.mapIter (some b) clock #[e.born] clock):=by rw[←ew3];simp[setBlock,hs2]
 have b3:w3.heap[b]? =some (.map #[e] clock):=by rw[←ew3];simp[setBlock,hne];exact b2
 have hnx2:=fun ty=>Zp7 (P:=Tryz.prog) ty r3 b3 hborn
 have hen:=run_entry_at (P:=Tryz.prog) w3 w1.heap.size b clock #[] #[e] clock e r3 b3 (by simp) (by simp)
 rw[hv]at hen
 have hbw:Below w1.heap.size w1 w3:=by
  have h12:Below w1.heap.size w1 w2:=by rw[←ew2];exact(Below.refl _ w1).alloc (Nat.le_refl _) _
  refine⟨?_, ?_, ?_, ?_, ?_⟩
  ·rw[←ew3];exact h12.os
  ·rw[←ew3];exact h12.tape
  ·rw[←ew3];exact h12.output
  ·rw[←ew3];simp[setBlock];omega
  ·intro i hi
   rw[←ew3]
   simp only[setBlock]
   rw[Array.getElem?_setIfInBounds_ne (by omega)]
   exact h12.block i hi
 go_wp2
 refine wp_loop_rounds 2 ?_
 rw[rounds_succ]
 go_wp2
 ·have h:v≠0:=by simpa using(by assumption:(v !=0)=true)
  go_ret
  exact⟨by rw[decide_eq_false h];rfl,hbw⟩
 ·have h:v=0:=by simpa using(by assumption:(v !=0)=false)
  rw[rounds_succ]
  go_wp2
  go_ret
  exact⟨by rw[decide_eq_true h];rfl,hbw⟩
end Go.Proofs.YtgmjnhiakpcpbaaGreatDoor
/-
 flowFact: run by the kernel.
-/
namespace Go.Proofs.YtgmjnhiakpcpbaaGreatDoor
open Go.Am Go.Tx
set_option maxRecDepth 1000000 in
theorem Zkd:Zjj ((Zch Tryz.prog ZpK 600).rn 15 [] [])=true:=by decide+kernel
end Go.Proofs.YtgmjnhiakpcpbaaGreatDoor
/-
 flow.Verify at the arguments of flowFact: run by the kernel.
-/
namespace Go.Proofs.YtgmjnhiakpcpbaaGreatDoor
open Go.Am Go.Tx
set_option maxRecDepth 1000000 in
theorem Zs5:Zhi 0 ((Zch Tryz.prog Zj6 600).rn 38 [ZnM,Zng,Zs1] [])=true:=by decide+kernel
end Go.Proofs.YtgmjnhiakpcpbaaGreatDoor
/-
 flow.Verify at the arguments of flowFact: run by the kernel.
-/
namespace Go.Proofs.YtgmjnhiakpcpbaaGreatDoor
open Go.Am Go.Tx
set_option maxRecDepth 1000000 in
theorem ZsS:Zhi 21 ((Zch Tryz.prog Zj6 600).rn 38 [ZnM,Zng,Zst] [])=true:=by decide+kernel
end Go.Proofs.YtgmjnhiakpcpbaaGreatDoor
