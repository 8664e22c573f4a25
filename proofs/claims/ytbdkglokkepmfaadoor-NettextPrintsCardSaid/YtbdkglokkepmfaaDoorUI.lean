/-
 A line of words and numbers (the closure of NetLines).
-/
import Derived.Test.YtbdkglokkepmfaaDoorU8
import Derived.Test.YtbdkglokkepmfaaDoorUF
set_option linter.constructorNameAsVariable false
set_option linter.unusedSimpArgs false
set_option linter.unusedVariables false
namespace Go.Proofs.YtbdkglokkepmfaaDoor
open Go.Am Go.Tx Ne Go.Lib
set_option maxRecDepth 100000
def Zbr (ws:List Txt):Txt:=ws.flatMap fun w=>w++ [32]
def Zc3 (vs:List Int):Txt:=vs.flatMap fun v=>Zid v++ [32]
def ZhJ (ws:List Txt) (vs:List Int):Txt:=(Zbr ws++Zc3 vs).take ((Zbr ws++Zc3 vs).length-1)
theorem ZdD {α:Type} {f:α→Txt} {B:Nat}: ∀ {l:List α},(∀x∈l,(f x).length≤B)→(l.flatMap f).length≤l.length*B
 | [],_=>Nat.zero_le _
 |x::r,h=>by
  rw[List.flatMap_cons,List.length_append,List.length_cons,Nat.succ_mul]
  have h1:=h x (List.mem_cons_self ..)
  have h2:=ZdD (l:=r) fun y hy=>h y (List.mem_cons_of_mem _ hy)
  omega
theorem Zfm {α:Type} {f:α→Txt} {l:List α} {i:Nat} (h:i<l.length):(l.take (i+1)).flatMap f=(l.take i).flatMap f++f l[i]:=by
 rw[List.take_add_one,List.getElem?_eq_getElem h,List.flatMap_append];simp
theorem Zfi {v:Int} (h0: -1000000≤v) (h1:v≤1000000):(Zid v).length≤20:=by
 have hl:(decDigits v.natAbs).length≤19:=Zr7 (by decide) (by omega)
 unfold Zid
 cases decide (v<0)with
 |true=>simp only[cond_true,List.length_cons];omega
 |false=>simp only[cond_false];omega
theorem ZgW {α:Type} {l:List α} {i:Nat} {x:α} (h:x∈l.take i):x∈l:=List.mem_of_mem_take h
set_option maxHeartbeats 16000000 in
theorem ZsD (H:List SM) (F base vid wid nv:Nat) (ws:List Txt) (b:Bool) (hw:nth H wid=some (.row .s ws b)) (hn:ws.length≤10) (hl: ∀w∈ws,w.length≤1000):
 LoopOK Tryd.prog Zax F ⟨19,base,41⟩ (ZaX Tryd.f19 2) [(1, .ref vid 0 nv none),(2, .ptr 1 0 0),(5, .v .s []),(10, .ref wid 0 ws.length none),(11,nt ws.length),(12,nt 0)] H
 (fun e tm hp'=>e= .exit 0∧Ent F tm hp' [(1, .ref vid 0 nv none),(2, .ptr 1 0 0),(5, .v .s (Zbr ws))] H):=by
 refine ZaB Zaq rfl (fun(i:Nat)=> [(1, .ref vid 0 nv none),(2, .ptr 1 0 0),(5, .v .s (Zbr (ws.take i))),(10, .ref wid 0 ws.length none),(11,nt ws.length),(12,nt i)]) (fun _=>H) (fun i=>i≤ws.length) (fun i=>ws.length-i) ?_ 0 (Nat.zero_le _) (Zah ⟨rfl,rfl,rfl,rfl,rfl,rfl,trivial⟩)
 rintro i hi
 cases h1:decide ((i:Int)<(ws.length:Int))with
 |false=>
  have e:i=ws.length:=by have:=of_decide_eq_false h1;omega
  refine Zae ?_
  refine Zaa ?_
  refine Zad ?_
  refine brF h1 ?_
  refine⟨rfl, ?_⟩
  rw[e]
  exact Zah ⟨rfl,rfl,congrArg (fun x=>some (SV.v .s (Zbr x))) (List.take_length (l:=ws)),trivial⟩
 |true=>
  have hlt:i<ws.length:=by have:=of_decide_eq_true h1;omega
  have ci:=cin hlt
  have gx:ws[0+(i:Int).toNat]? =some ws[i]:=by rw[Int.toNat_natCast,Nat.zero_add];exact List.getElem?_eq_getElem hlt
  have hx:=hl _ (List.getElem_mem hlt)
  have et:Zbr (ws.take (i+1))=Zbr (ws.take i)++(ws[i]++ [32]):=Zfm hlt
  have hb:(Zbr (ws.take i)).length≤(ws.take i).length*1001:=ZdD fun w hw=>by rw[List.length_append,List.length_singleton];have:=hl w (ZgW hw);omega
  rw[List.length_take]at hb
  obtain⟨x,ex⟩: ∃x,ws[i]=x:=⟨_,rfl⟩
  rw[ex]at gx hx et
  have q1:x.length+([32]:Txt).length≤9223372036854775807:=by rw[List.length_singleton];omega
  have q2:(Zbr (ws.take i)).length+(x++ [32]).length≤9223372036854775807:=by rw[List.length_append,List.length_singleton];omega
  refine Zae ?_
  refine Zaa ?_
  refine Zad ?_
  refine brT h1 ?_
  refine Zae ?_
  refine Zaf rfl (Zcq rfl rfl rfl rfl rfl hw rfl ci ?_)
  refine Zab rfl rfl ?_
  refine Zaf rfl (Zcr rfl rfl hw gx rfl ?_)
  refine Zab rfl rfl ?_
  refine Zaa ?_
  refine Zad ?_
  refine Zae ?_
  iterate 2 refine Zaa ?_
  refine Zag rfl (fun _=>rfl) q1 rfl rfl ?_
  refine Zag rfl (fun _=>rfl) q2 rfl rfl ?_
  refine Zaa ?_
  refine Zad ?_
  refine Zae ?_
  iterate 2 refine Zaa ?_
  refine Zad ?_
  refine⟨i+1,hlt,by show ws.length-(i+1)<ws.length-i;omega, ?_⟩
  exact Zah ⟨rfl,rfl,congrArg (fun x=>some (SV.v .s x)) et.symm,rfl,rfl,congrArg (fun x=>some (SV.v (.i .i64) x)) (ZaW (by omega)),trivial⟩
set_option maxHeartbeats 16000000 in
theorem Zsv (H:List SM) (F base vid:Nat) (vs:List Int) (b:Bool) (s0:Txt) (h0:s0.length≤20000) (hv:nth H vid=some (.row (.i .i64) vs b)) (hn:vs.length≤10) (hl: ∀v∈vs,-1000000≤v∧v≤1000000):
 LoopOK Tryd.prog Zax F ⟨19,base,41⟩ (ZaX Tryd.f19 7) [(2, .ptr 1 0 0),(5, .v .s s0),(21, .ref vid 0 vs.length none),(22,nt vs.length),(23,nt 0)] H
 (fun e tm hp'=>e= .exit 2∧Ent F tm hp' [(2, .ptr 1 0 0),(5, .v .s (s0++Zc3 vs))] H):=by
 refine ZaB Zaq rfl (fun(i:Nat)=> [(2, .ptr 1 0 0),(5, .v .s (s0++Zc3 (vs.take i))),(21, .ref vid 0 vs.length none),(22,nt vs.length),(23,nt i)]) (fun _=>H) (fun i=>i≤vs.length) (fun i=>vs.length-i) ?_ 0 (Nat.zero_le _) (Zah ⟨rfl,congrArg (fun x=>some (SV.v .s x)) (List.append_nil s0).symm,rfl,rfl,rfl,trivial⟩)
 rintro i hi
 cases h1:decide ((i:Int)<(vs.length:Int))with
 |false=>
  have e:i=vs.length:=by have:=of_decide_eq_false h1;omega
  refine Zae ?_
  refine Zaa ?_
  refine Zad ?_
  refine brF h1 ?_
  refine⟨rfl, ?_⟩
  rw[e]
  exact Zah ⟨rfl,congrArg (fun x=>some (SV.v .s (s0++Zc3 x))) (List.take_length (l:=vs)),trivial⟩
 |true=>
  have hlt:i<vs.length:=by have:=of_decide_eq_true h1;omega
  have ci:=cin hlt
  have gx:vs[0+(i:Int).toNat]? =some vs[i]:=by rw[Int.toNat_natCast,Nat.zero_add];exact List.getElem?_eq_getElem hlt
  have hx:=hl _ (List.getElem_mem hlt)
  have et:s0++Zc3 (vs.take (i+1))=(s0++Zc3 (vs.take i))++(Zid vs[i]++ [32]):=by rw[List.append_assoc];exact congrArg (s0++ ·) (Zfm hlt)
  have hb:(Zc3 (vs.take i)).length≤(vs.take i).length*21:=ZdD fun v hv=>by
   rw[List.length_append,List.length_singleton]
   have h:=hl v (ZgW hv)
   have:=Zfi h.1 h.2
   omega
  rw[List.length_take]at hb
  obtain⟨x,ex⟩: ∃x,vs[i]=x:=⟨_,rfl⟩
  rw[ex]at gx hx et
  have hd:=Zu1 x hx.1 hx.2
  have hdl:=Zfi hx.1 hx.2
  have q1:(Zid x).length+([32]:Txt).length≤9223372036854775807:=by rw[List.length_singleton];omega
  have q2:(s0++Zc3 (vs.take i)).length+(Zid x++ [32]).length≤9223372036854775807:=by rw[List.length_append,List.length_append,List.length_singleton];omega
  refine Zae ?_
  refine Zaa ?_
  refine Zad ?_
  refine brT h1 ?_
  refine Zae ?_
  refine Zaf rfl (Zcq rfl rfl rfl rfl rfl hv rfl ci ?_)
  refine Zab rfl rfl ?_
  refine Zaf rfl (Zcr rfl rfl hv gx rfl ?_)
  refine Zab rfl rfl ?_
  refine Zaa ?_
  refine Zad ?_
  refine Zae ?_
  iterate 2 refine Zaa ?_
  refine Zaf rfl ((hd).mono ?_)
  rintro _ rfl
  refine Zab rfl rfl ?_
  refine Zag rfl (fun _=>rfl) q1 rfl rfl ?_
  refine Zag rfl (fun _=>rfl) q2 rfl rfl ?_
  refine Zaa ?_
  refine Zad ?_
  refine Zae ?_
  iterate 2 refine Zaa ?_
  refine Zad ?_
  refine⟨i+1,hlt,by show vs.length-(i+1)<vs.length-i;omega, ?_⟩
  exact Zah ⟨rfl,congrArg (fun x=>some (SV.v .s x)) et.symm,rfl,rfl,congrArg (fun x=>some (SV.v (.i .i64) x)) (ZaW (by omega)),trivial⟩
set_option maxHeartbeats 16000000 in
theorem Zqr (A:List SV) (out:List Txt) (X:List SM) (wid vid:Nat) (ws:List Txt) (vs:List Int) (b1 b2:Bool) (hw:nth (hM A out X) wid=some (.row .s ws b1)) (hv:nth (hM A out X) vid=some (.row (.i .i64) vs b2)) (hne:ws≠ []) (hn:ws.length≤10) (hl: ∀w∈ws,w.length≤1000) (hn2:vs.length≤10) (hl2: ∀v∈vs,-1000000≤v∧v≤1000000) (hm:out.length≤1000):
 OpenOK Tryd.prog Zax 19 [.ref wid 0 ws.length none, .ref vid 0 vs.length none, .ptr 1 0 0] (hM A out X) (fun V hp'=>V= .tup []∧ ∃k,k=X.length+4∧hp'=hN A out X (ZhJ ws vs) k):=by
 refine Zd5 (fn:=Tryd.f19) (code:=ZgG Tryd.f19) Zaq (by kernel_rfl) Tryd.func19 (by kernel_rfl) (Nat.le_of_ble_eq_true (by kernel_rfl)) ?_
 intro base
 have hb:(Zbr ws).length≤ws.length*1001:=ZdD fun w hw=>by rw[List.length_append,List.length_singleton];have:=hl w hw;omega
 have hb2:(Zc3 vs).length≤vs.length*21:=ZdD fun v hv=>by
  rw[List.length_append,List.length_singleton]
  have h:=hl2 v hv
  have:=Zfi h.1 h.2
  omega
 have hpos:1≤(Zbr ws).length:=by
  cases ws with
  |nil=>exact absurd rfl hne
  |cons w r=>
   rw[Zbr,List.flatMap_cons]
   simp only[List.length_append,List.length_singleton]
   omega
 have zC:(out.length+1)*16≤140737488355328:=by omega
 have hS:(Zbr ws++Zc3 vs).length≤20000∧1≤(Zbr ws++Zc3 vs).length:=by rw[List.length_append];omega
 have hu:IntKind.i64.wrap (((Zbr ws++Zc3 vs).length:Int)-1)=(((Zbr ws++Zc3 vs).length-1:Nat):Int):=by
  rw[ZgA (by omega) (by omega)];omega
 have hsl:(0:Int)≤IntKind.i64.wrap (((Zbr ws++Zc3 vs).length:Int)-1)∧IntKind.i64.wrap (((Zbr ws++Zc3 vs).length:Int)-1)≤(((Zbr ws++Zc3 vs).length:Nat):Int):=by rw[hu];omega
 have el:List.take (IntKind.i64.wrap (((Zbr ws++Zc3 vs).length:Int)-1)).toNat (Zbr ws++Zc3 vs)=ZhJ ws vs:=by rw[hu,Int.toNat_natCast];rfl
 have l1:=ZsD (hM A out X) (hM A out X).length base vid wid vs.length ws b1 hw hn hl
 have l2:=Zsv (hM A out X) (hM A out X).length base vid vs b2 (Zbr ws) (by omega) hv hn2 hl2
 refine Zae ?_
 refine Zaa ?_
 refine Zad ?_
 refine Zae ?_
 iterate 3 refine Zaa ?_
 refine Zad ?_
 refine(l1.ent ?_).through ?_
 ·exact Zah ⟨rfl,rfl,rfl,rfl,rfl,rfl,trivial⟩
 rintro _ tm hp' ⟨rfl,hE⟩
 refine⟨_,_,hE, ?_⟩
 show wp _ _ _ _ _ _ _ _ _
 refine Zae ?_
 iterate 3 refine Zaa ?_
 refine Zad ?_
 refine(l2.ent ?_).through ?_
 ·exact Zah ⟨rfl,rfl,rfl,rfl,rfl,trivial⟩
 rintro _ tm hp' ⟨rfl,hE⟩
 refine⟨_,_,hE, ?_⟩
 show wp _ _ _ _ _ _ _ _ _
 refine Zae ?_
 refine Zag rfl (fun _=>rfl) rfl rfl rfl ?_
 iterate 4 refine Zaa ?_
 refine Zag rfl (fun _=>rfl) hsl rfl rfl ?_
 refine ZaQ ?_
 refine Zaf rfl (Za8 rfl rfl rfl rfl rfl rfl rfl rfl rfl rfl (Za1 (a:=hM A out X)) rfl zC ?_)
 refine Zab rfl rfl ?_
 refine Zaf rfl (Zar rfl rfl rfl rfl rfl rfl rfl rfl ?_)
 refine Zaw rfl ?_
 refine Zad ?_
 refine⟨rfl,(hM A out X++ [SM.row .s [ZhJ ws vs] true]).length,by simp[hM], ?_⟩
 rw[←el]
 rfl
end Go.Proofs.YtbdkglokkepmfaaDoor
