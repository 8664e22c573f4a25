/-
 A line of words and numbers (the closure of NetLines).
-/
import Derived.Test.YtgngdcpglnfkeaaDoorU8
import Derived.Test.YtgngdcpglnfkeaaDoorUF
set_option linter.constructorNameAsVariable false
set_option linter.unusedSimpArgs false
set_option linter.unusedVariables false
namespace Go.Proofs.YtgngdcpglnfkeaaDoor
open Go.Am Go.Tx Ne Go.Lib
set_option maxRecDepth 100000
def ZbC (ws:List Txt):Txt:=ws.flatMap fun w=>w++ [32]
def Zdj (vs:List Int):Txt:=vs.flatMap fun v=>ZjR v++ [32]
def ZjN (ws:List Txt) (vs:List Int):Txt:=(ZbC ws++Zdj vs).take ((ZbC ws++Zdj vs).length-1)
theorem ZfO {α:Type} {f:α→Txt} {B:Nat}: ∀ {l:List α},(∀x∈l,(f x).length≤B)→(l.flatMap f).length≤l.length*B
 | [],_=>Nat.zero_le _
 |x::r,h=>by
  rw[List.flatMap_cons,List.length_append,List.length_cons,Nat.succ_mul]
  have h1:=h x (List.mem_cons_self ..)
  have h2:=ZfO (l:=r) fun y hy=>h y (List.mem_cons_of_mem _ hy)
  omega
theorem ZkT {α:Type} {f:α→Txt} {l:List α} {i:Nat} (h:i<l.length):(l.take (i+1)).flatMap f=(l.take i).flatMap f++f l[i]:=by
 rw[List.take_add_one,List.getElem?_eq_getElem h,List.flatMap_append];simp
theorem Zhv {v:Int} (h0: -1000000≤v) (h1:v≤1000000):(ZjR v).length≤20:=by
 have hl:(decDigits v.natAbs).length≤19:=Zt0 (by decide) (by omega)
 unfold ZjR
 cases decide (v<0)with
 |true=>simp only[cond_true,List.length_cons];omega
 |false=>simp only[cond_false];omega
theorem Znm {α:Type} {l:List α} {i:Nat} {x:α} (h:x∈l.take i):x∈l:=List.mem_of_mem_take h
set_option maxHeartbeats 16000000 in
theorem ZtA (H:List SM) (F base vid wid nv:Nat) (ws:List Txt) (b:Bool) (hw:nth H wid=some (.row .s ws b)) (hn:ws.length≤10) (hl: ∀w∈ws,w.length≤1000):
 LoopOK Tryd.prog Zaw F ⟨34,base,41⟩ (Zbt Tryd.f34 2) [(1, .ref vid 0 nv none),(2, .ptr 1 0 0),(5, .v .s []),(10, .ref wid 0 ws.length none),(11,nt ws.length),(12,nt 0)] H
 (fun e tm hp'=>e= .exit 0∧Ent F tm hp' [(1, .ref vid 0 nv none),(2, .ptr 1 0 0),(5, .v .s (ZbC ws))] H):=by
 refine ZaH Zao rfl (fun(i:Nat)=> [(1, .ref vid 0 nv none),(2, .ptr 1 0 0),(5, .v .s (ZbC (ws.take i))),(10, .ref wid 0 ws.length none),(11,nt ws.length),(12,nt i)]) (fun _=>H) (fun i=>i≤ws.length) (fun i=>ws.length-i) ?_ 0 (Nat.zero_le _) (Zai ⟨rfl,rfl,rfl,rfl,rfl,rfl,trivial⟩)
 rintro i hi
 cases h1:decide ((i:Int)<(ws.length:Int))with
 |false=>
  have e:i=ws.length:=by have:=of_decide_eq_false h1;omega
  refine Zae ?_
  refine Zab ?_
  refine Zaf ?_
  refine brF h1 ?_
  refine⟨rfl, ?_⟩
  rw[e]
  exact Zai ⟨rfl,rfl,congrArg (fun x=>some (SV.v .s (ZbC x))) (List.take_length (l:=ws)),trivial⟩
 |true=>
  have hlt:i<ws.length:=by have:=of_decide_eq_true h1;omega
  have ci:=cin hlt
  have gx:ws[0+(i:Int).toNat]? =some ws[i]:=by rw[Int.toNat_natCast,Nat.zero_add];exact List.getElem?_eq_getElem hlt
  have hx:=hl _ (List.getElem_mem hlt)
  have et:ZbC (ws.take (i+1))=ZbC (ws.take i)++(ws[i]++ [32]):=ZkT hlt
  have hb:(ZbC (ws.take i)).length≤(ws.take i).length*1001:=ZfO fun w hw=>by rw[List.length_append,List.length_singleton];have:=hl w (Znm hw);omega
  rw[List.length_take]at hb
  obtain⟨x,ex⟩: ∃x,ws[i]=x:=⟨_,rfl⟩
  rw[ex]at gx hx et
  have q1:x.length+([32]:Txt).length≤9223372036854775807:=by rw[List.length_singleton];omega
  have q2:(ZbC (ws.take i)).length+(x++ [32]).length≤9223372036854775807:=by rw[List.length_append,List.length_singleton];omega
  refine Zae ?_
  refine Zab ?_
  refine Zaf ?_
  refine brT h1 ?_
  refine Zae ?_
  refine Zac rfl (Zck rfl rfl rfl rfl rfl hw rfl ci ?_)
  refine Zaa rfl rfl ?_
  refine Zac rfl (Zcm rfl rfl hw gx rfl ?_)
  refine Zaa rfl rfl ?_
  refine Zab ?_
  refine Zaf ?_
  refine Zae ?_
  iterate 2 refine Zab ?_
  refine Zag rfl (fun _=>rfl) q1 rfl rfl ?_
  refine Zag rfl (fun _=>rfl) q2 rfl rfl ?_
  refine Zab ?_
  refine Zaf ?_
  refine Zae ?_
  iterate 2 refine Zab ?_
  refine Zaf ?_
  refine⟨i+1,hlt,by show ws.length-(i+1)<ws.length-i;omega, ?_⟩
  exact Zai ⟨rfl,rfl,congrArg (fun x=>some (SV.v .s x)) et.symm,rfl,rfl,congrArg (fun x=>some (SV.v (.i .i64) x)) (Za7 (by omega)),trivial⟩
set_option maxHeartbeats 16000000 in
theorem ZtL (H:List SM) (F base vid:Nat) (vs:List Int) (b:Bool) (s0:Txt) (h0:s0.length≤20000) (hv:nth H vid=some (.row (.i .i64) vs b)) (hn:vs.length≤10) (hl: ∀v∈vs,-1000000≤v∧v≤1000000):
 LoopOK Tryd.prog Zaw F ⟨34,base,41⟩ (Zbt Tryd.f34 7) [(2, .ptr 1 0 0),(5, .v .s s0),(21, .ref vid 0 vs.length none),(22,nt vs.length),(23,nt 0)] H
 (fun e tm hp'=>e= .exit 2∧Ent F tm hp' [(2, .ptr 1 0 0),(5, .v .s (s0++Zdj vs))] H):=by
 refine ZaH Zao rfl (fun(i:Nat)=> [(2, .ptr 1 0 0),(5, .v .s (s0++Zdj (vs.take i))),(21, .ref vid 0 vs.length none),(22,nt vs.length),(23,nt i)]) (fun _=>H) (fun i=>i≤vs.length) (fun i=>vs.length-i) ?_ 0 (Nat.zero_le _) (Zai ⟨rfl,congrArg (fun x=>some (SV.v .s x)) (List.append_nil s0).symm,rfl,rfl,rfl,trivial⟩)
 rintro i hi
 cases h1:decide ((i:Int)<(vs.length:Int))with
 |false=>
  have e:i=vs.length:=by have:=of_decide_eq_false h1;omega
  refine Zae ?_
  refine Zab ?_
  refine Zaf ?_
  refine brF h1 ?_
  refine⟨rfl, ?_⟩
  rw[e]
  exact Zai ⟨rfl,congrArg (fun x=>some (SV.v .s (s0++Zdj x))) (List.take_length (l:=vs)),trivial⟩
 |true=>
  have hlt:i<vs.length:=by have:=of_decide_eq_true h1;omega
  have ci:=cin hlt
  have gx:vs[0+(i:Int).toNat]? =some vs[i]:=by rw[Int.toNat_natCast,Nat.zero_add];exact List.getElem?_eq_getElem hlt
  have hx:=hl _ (List.getElem_mem hlt)
  have et:s0++Zdj (vs.take (i+1))=(s0++Zdj (vs.take i))++(ZjR vs[i]++ [32]):=by rw[List.append_assoc];exact congrArg (s0++ ·) (ZkT hlt)
  have hb:(Zdj (vs.take i)).length≤(vs.take i).length*21:=ZfO fun v hv=>by
   rw[List.length_append,List.length_singleton]
   have h:=hl v (Znm hv)
   have:=Zhv h.1 h.2
   omega
  rw[List.length_take]at hb
  obtain⟨x,ex⟩: ∃x,vs[i]=x:=⟨_,rfl⟩
  rw[ex]at gx hx et
  have hd:=Zwl x hx.1 hx.2
  have hdl:=Zhv hx.1 hx.2
  have q1:(ZjR x).length+([32]:Txt).length≤9223372036854775807:=by rw[List.length_singleton];omega
  have q2:(s0++Zdj (vs.take i)).length+(ZjR x++ [32]).length≤9223372036854775807:=by rw[List.length_append,List.length_append,List.length_singleton];omega
  refine Zae ?_
  refine Zab ?_
  refine Zaf ?_
  refine brT h1 ?_
  refine Zae ?_
  refine Zac rfl (Zck rfl rfl rfl rfl rfl hv rfl ci ?_)
  refine Zaa rfl rfl ?_
  refine Zac rfl (Zcm rfl rfl hv gx rfl ?_)
  refine Zaa rfl rfl ?_
  refine Zab ?_
  refine Zaf ?_
  refine Zae ?_
  iterate 2 refine Zab ?_
  refine Zac rfl ((hd).mono ?_)
  rintro _ rfl
  refine Zaa rfl rfl ?_
  refine Zag rfl (fun _=>rfl) q1 rfl rfl ?_
  refine Zag rfl (fun _=>rfl) q2 rfl rfl ?_
  refine Zab ?_
  refine Zaf ?_
  refine Zae ?_
  iterate 2 refine Zab ?_
  refine Zaf ?_
  refine⟨i+1,hlt,by show vs.length-(i+1)<vs.length-i;omega, ?_⟩
  exact Zai ⟨rfl,congrArg (fun x=>some (SV.v .s x)) et.symm,rfl,rfl,congrArg (fun x=>some (SV.v (.i .i64) x)) (Za7 (by omega)),trivial⟩
set_option maxHeartbeats 16000000 in
theorem Zro (A:List SV) (out:List Txt) (X:List SM) (wid vid:Nat) (ws:List Txt) (vs:List Int) (b1 b2:Bool) (hw:nth (hM A out X) wid=some (.row .s ws b1)) (hv:nth (hM A out X) vid=some (.row (.i .i64) vs b2)) (hne:ws≠ []) (hn:ws.length≤10) (hl: ∀w∈ws,w.length≤1000) (hn2:vs.length≤10) (hl2: ∀v∈vs,-1000000≤v∧v≤1000000) (hm:out.length≤1000):
 OpenOK Tryd.prog Zaw 34 [.ref wid 0 ws.length none, .ref vid 0 vs.length none, .ptr 1 0 0] (hM A out X) (fun V hp'=>V= .tup []∧ ∃k,k=X.length+4∧hp'=hN A out X (ZjN ws vs) k):=by
 refine ZaO (fn:=Tryd.f34) (code:=Za0 Tryd.f34) Zao (by kernel_rfl) Tryd.func34 (by kernel_rfl) (Nat.le_of_ble_eq_true (by kernel_rfl)) ?_
 intro base
 have hb:(ZbC ws).length≤ws.length*1001:=ZfO fun w hw=>by rw[List.length_append,List.length_singleton];have:=hl w hw;omega
 have hb2:(Zdj vs).length≤vs.length*21:=ZfO fun v hv=>by
  rw[List.length_append,List.length_singleton]
  have h:=hl2 v hv
  have:=Zhv h.1 h.2
  omega
 have hpos:1≤(ZbC ws).length:=by
  cases ws with
  |nil=>exact absurd rfl hne
  |cons w r=>
   rw[ZbC,List.flatMap_cons]
   simp only[List.length_append,List.length_singleton]
   omega
 have zC:(out.length+1)*16≤140737488355328:=by omega
 have hS:(ZbC ws++Zdj vs).length≤20000∧1≤(ZbC ws++Zdj vs).length:=by rw[List.length_append];omega
 have hu:IntKind.i64.wrap (((ZbC ws++Zdj vs).length:Int)-1)=(((ZbC ws++Zdj vs).length-1:Nat):Int):=by
  rw[Zg0 (by omega) (by omega)];omega
 have hsl:(0:Int)≤IntKind.i64.wrap (((ZbC ws++Zdj vs).length:Int)-1)∧IntKind.i64.wrap (((ZbC ws++Zdj vs).length:Int)-1)≤(((ZbC ws++Zdj vs).length:Nat):Int):=by rw[hu];omega
 have el:List.take (IntKind.i64.wrap (((ZbC ws++Zdj vs).length:Int)-1)).toNat (ZbC ws++Zdj vs)=ZjN ws vs:=by rw[hu,Int.toNat_natCast];rfl
 have l1:=ZtA (hM A out X) (hM A out X).length base vid wid vs.length ws b1 hw hn hl
 have l2:=ZtL (hM A out X) (hM A out X).length base vid vs b2 (ZbC ws) (by omega) hv hn2 hl2
 refine Zae ?_
 refine Zab ?_
 refine Zaf ?_
 refine Zae ?_
 iterate 3 refine Zab ?_
 refine Zaf ?_
 refine(l1.ent ?_).through ?_
 ·exact Zai ⟨rfl,rfl,rfl,rfl,rfl,rfl,trivial⟩
 rintro _ tm hp' ⟨rfl,hE⟩
 refine⟨_,_,hE, ?_⟩
 show wp _ _ _ _ _ _ _ _ _
 refine Zae ?_
 iterate 3 refine Zab ?_
 refine Zaf ?_
 refine(l2.ent ?_).through ?_
 ·exact Zai ⟨rfl,rfl,rfl,rfl,rfl,trivial⟩
 rintro _ tm hp' ⟨rfl,hE⟩
 refine⟨_,_,hE, ?_⟩
 show wp _ _ _ _ _ _ _ _ _
 refine Zae ?_
 refine Zag rfl (fun _=>rfl) rfl rfl rfl ?_
 iterate 4 refine Zab ?_
 refine Zag rfl (fun _=>rfl) hsl rfl rfl ?_
 refine ZaR ?_
 refine Zac rfl (Ze9 rfl rfl rfl rfl rfl rfl rfl rfl rfl rfl (ZbV (a:=hM A out X)) rfl zC ?_)
 refine Zaa rfl rfl ?_
 refine Zac rfl (ZaB rfl rfl rfl rfl rfl rfl rfl rfl ?_)
 refine Zar rfl ?_
 refine Zaf ?_
 refine⟨rfl,(hM A out X++ [SM.row .s [ZjN ws vs] true]).length,by simp[hM], ?_⟩
 rw[←el]
 rfl
end Go.Proofs.YtgngdcpglnfkeaaDoor
