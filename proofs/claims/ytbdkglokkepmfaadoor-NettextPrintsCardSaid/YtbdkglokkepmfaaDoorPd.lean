/-
 nettext's Print. (Printed by tools/gendiff.py.)
-/
import Derived.Test.YtbdkglokkepmfaaDoorPc
import Derived.Test.YtbdkglokkepmfaaDoorUA
set_option linter.constructorNameAsVariable false
set_option linter.unusedSimpArgs false
set_option linter.unusedVariables false
namespace Go.Proofs.YtbdkglokkepmfaaDoor
open Go.Am Go.Tx Ne
set_option maxRecDepth 100000
def ZgP (l:List Txt):Txt:=l.flatMap fun s=>s++ [10]
def ZaE (p:Txt) (X Y:List Txt):List Txt:=(X.filter fun s=> !Zcf s Y).map (p++ ·)
theorem ZcU (p:Txt) (X Z Y:List Txt):ZaE p (X++Z) Y=ZaE p X Y++ZaE p Z Y:=by simp[ZaE]
theorem ZcH (p:Txt) (X Y:List Txt):(ZaE p X Y).length≤X.length:=by
 rw[ZaE,List.length_map];exact List.length_filter_le _ _
theorem Zdc {n:Ne.Net} (hb:big n=false):(ZbW n).length≤500:=by
 simp only[big,Bool.or_eq_false_iff,decide_eq_false_iff_not]at hb
 obtain⟨b1,b2,b3,b4,b5,b6⟩:=hb
 simp only[ZbW,List.length_append,List.length_map,List.length_nil]
 omega
theorem Zdk {n:Ne.Net} (hf:Fine n): ∀s∈ZbW n,s.length≤1000000:=by
 intro s hs
 rw[Zrb]at hs
 rcases List.mem_append.1 hs with hs|hs
 ·obtain⟨x,hx,rfl⟩:=List.mem_map.1 hs
  have:=(Za2 hf hx).2
  simp only[ZaY,List.length_append,List.length_cons,List.length_nil]
  omega
 ·obtain⟨p,hp,rfl⟩:=List.mem_map.1 hs
  obtain⟨_,_,_,_,_,_,_,_,_,h⟩:=(ZoU hf p hp).ex
  exact h
def zpr (l:List Txt) (i:Nat):TM:=[(5, .v .s (ZgP (l.take i))),(14, .v (.l .s) l),(15,nt l.length),(16,nt i)]
set_option maxHeartbeats 8000000 in
theorem Zs0 (H:List SM) (l:List Txt) (hl:l.length≤1000) (hf: ∀s∈l,s.length≤1000000):
 LoopOK Tryd.prog Zax 0 ⟨5,0,29⟩ (ZaX Tryd.f5 6) (zpr l 0) H
 (fun e tm hp'=>e= .exit 0∧Ent 0 tm hp' [(5, .v .s (ZgP l))] H):=by
 refine ZaB Zaq rfl (zpr l) (fun _=>H) (fun i=>i≤l.length) (fun i=>l.length-i) ?_ 0 (Nat.zero_le _) ZaC
 rintro i hi
 cases h1:decide ((i:Int)<(l.length:Int))with
 |false=>
  have e:i=l.length:=by have:=of_decide_eq_false h1;omega
  refine Zae ?_
  refine Zaa ?_
  refine Zad ?_
  refine brF h1 ?_
  refine⟨rfl, ?_⟩
  rw[e]
  exact Zah ⟨congrArg (fun x=>some (SV.v .s (ZgP x))) (List.take_length (l:=l)),trivial⟩
 |true=>
  have hlt:i<l.length:=by have:=of_decide_eq_true h1;omega
  have gx:l[(i:Int).toNat]? =some l[i]:=by rw[Int.toNat_natCast];exact List.getElem?_eq_getElem hlt
  have hx:=hf _ (List.getElem_mem hlt)
  have et:ZgP (l.take (i+1))=ZgP (l.take i)++(l[i]++ [10]):=Zfm hlt
  have hb:(ZgP (l.take i)).length≤(l.take i).length*1000001:=ZdD fun w hw=>by rw[List.length_append,List.length_singleton];have:=hf w (ZgW hw);omega
  rw[List.length_take]at hb
  obtain⟨x,ex⟩: ∃x,l[i]=x:=⟨_,rfl⟩
  rw[ex]at gx hx et
  have q1:x.length+([10]:Txt).length≤9223372036854775807:=by rw[List.length_singleton];omega
  have q2:(ZgP (l.take i)).length+(x++ [10]).length≤9223372036854775807:=by rw[List.length_append,List.length_singleton];omega
  refine Zae ?_
  refine Zaa ?_
  refine Zad ?_
  refine brT h1 ?_
  refine Zae ?_
  refine Za5 rfl (fun _=>rfl) (Int.natCast_nonneg i) gx rfl rfl ?_
  iterate 2 refine Zaa ?_
  refine Zad ?_
  refine Zae ?_
  iterate 2 refine Zaa ?_
  refine Zag rfl (fun _=>rfl) q1 rfl rfl ?_
  refine Zag rfl (fun _=>rfl) q2 rfl rfl ?_
  refine Zaa ?_
  refine Zad ?_
  refine Zae ?_
  iterate 2 refine Zaa ?_
  refine Zad ?_
  refine⟨i+1,hlt,by show l.length-(i+1)<l.length-i;omega, ?_⟩
  exact Zah ⟨congrArg (fun x=>some (SV.v .s x)) et.symm,rfl,rfl,congrArg (fun x=>some (SV.v (.i .i64) x)) (ZaW (by omega)),trivial⟩
set_option maxHeartbeats 8000000 in
theorem ZpS (n:Ne.Net) (hz:Zbj n) (h:(!decide (ZbV n=0))=true):PureOK Tryd.prog Zax 5 [.agg (ZbB n)] (fun V=>V= .tup [.v .s [], .v (.i .i64) (ZbV n)]):=by
 refine Zav Zaq Tryd.func5 ?_
 have hC:=Zjt n hz
 refine Zae ?_
 refine ZaQ ?_
 iterate 2 refine Zaa ?_
 refine Zad ?_
 refine Zae ?_
 refine Zag rfl (fun _=>rfl) rfl rfl rfl ?_
 refine Zaf rfl ((hC).mono ?_)
 rintro _ rfl
 refine Zab rfl rfl ?_
 refine Zaa ?_
 refine Zad ?_
 refine Zae ?_
 iterate 2 refine Zaa ?_
 refine Zad ?_
 refine brT h ?_
 refine Zae ?_
 iterate 3 refine Zaa ?_
 refine Zad ?_
 rfl
def ZcE (l:List Txt):Txt×Int:=bif decide (((ZgP l).length:Int)>8192)then([],2)else(ZgP l,0)
set_option maxHeartbeats 8000000 in
theorem ZmS (n:Ne.Net) (hz:Zbj n) (h:(!decide (ZbV n=0))=false):PureOK Tryd.prog Zax 5 [.agg (ZbB n)] (fun V=>V= .tup [.v .s (ZcE (ZbW n)).1, .v (.i .i64) (ZcE (ZbW n)).2]):=by
 refine Zav Zaq Tryd.func5 ?_
 have hC:=Zjt n hz
 have h0:ZbV n=0:=by simpa using h
 have hf:=ZfO h0
 have hL:=Zln n (Zdf h0) (Zif hf)
 have hl:=Zdc (Zdf h0)
 have l1:=Zs0 [.cell (ZbB n) true] (ZbW n) (by omega) (Zdk hf)
 generalize ZbW n=l at*
 refine Zae ?_
 refine ZaQ ?_
 iterate 2 refine Zaa ?_
 refine Zad ?_
 refine Zae ?_
 refine Zag rfl (fun _=>rfl) rfl rfl rfl ?_
 refine Zaf rfl ((hC).mono ?_)
 rintro _ rfl
 refine Zab rfl rfl ?_
 refine Zaa ?_
 refine Zad ?_
 refine Zae ?_
 iterate 2 refine Zaa ?_
 refine Zad ?_
 refine brF h ?_
 refine Zae ?_
 refine Zaa ?_
 refine Zad ?_
 refine Zae ?_
 refine Zag rfl (fun _=>rfl) rfl rfl rfl ?_
 refine Zaf rfl ((hL).mono ?_)
 rintro _ rfl
 refine Zab rfl rfl ?_
 iterate 2 refine Zaa ?_
 refine Zad ?_
 refine(l1.ent ?_).through ?_
 ·exact Zah ⟨rfl,rfl,rfl,rfl,trivial⟩
 rintro _ tm hp' ⟨rfl,hE⟩
 refine⟨_,_,hE, ?_⟩
 show wp _ _ _ _ _ _ _ _ _
 unfold ZcE
 cases g:decide (((ZgP l).length:Int)>8192)with
 |true=>
  refine Zae ?_
  iterate 3 refine Zaa ?_
  refine Zad ?_
  refine brT g ?_
  refine Zae ?_
  iterate 2 refine Zaa ?_
  refine Zad ?_
  rfl
 |false=>
  refine Zae ?_
  iterate 3 refine Zaa ?_
  refine Zad ?_
  refine brF g ?_
  refine Zae ?_
  iterate 3 refine Zaa ?_
  refine Zad ?_
  rfl
end Go.Proofs.YtbdkglokkepmfaaDoor
