/-
 nettext's Diff. (Printed by tools/gendiff.py.)
-/
import Derived.Test.YtbdkglokkepmfaaDoorPd
set_option linter.constructorNameAsVariable false
set_option linter.unusedSimpArgs false
set_option linter.unusedVariables false
namespace Go.Proofs.YtbdkglokkepmfaaDoor
open Go.Am Go.Tx Ne
set_option maxRecDepth 100000
def zda (X Y:List Txt) (k i:Nat):TM:=[(9, .v (.l .s) X),(10, .v (.l .s) Y),(11, .ref 0 0 k none),(34, .v (.l .s) X),(35,nt X.length),(36,nt i)]
set_option maxHeartbeats 8000000 in
theorem Zta (X Y o:List Txt) (hX:X.length≤1000) (hY:Y.length≤1000) (ho:o.length≤1000) (hf: ∀s∈X,s.length≤1000000):
 LoopOK Tryd.prog Zax 0 ⟨6,0,67⟩ (ZaX Tryd.f6 11) (zda X Y o.length 0) [.row .s o true]
 (fun e tm hp'=>e= .exit 2∧Ent 0 tm hp' [(9, .v (.l .s) X),(10, .v (.l .s) Y),(11, .ref 0 0 (o++ZaE [45,32] X Y).length none)] [.row .s (o++ZaE [45,32] X Y) true]):=by
 refine ZaB Zaq rfl (fun i=>zda X Y (o++ZaE [45,32] (X.take i) Y).length i) (fun i=> [.row .s (o++ZaE [45,32] (X.take i) Y) true]) (fun i=>i≤X.length) (fun i=>X.length-i) ?_ 0 (Nat.zero_le _) ?_
 case refine_2=>
  have e0:o++ZaE [45,32] (X.take 0) Y=o:=by rw[List.take_zero];exact List.append_nil o
  rw[e0];exact ZaC
 rintro i hi
 cases h1:decide ((i:Int)<(X.length:Int))with
 |false=>
  have e:i=X.length:=by have:=of_decide_eq_false h1;omega
  refine Zae ?_
  refine Zaa ?_
  refine Zad ?_
  refine brF h1 ?_
  refine⟨rfl, ?_⟩
  rw[e,List.take_length]
  exact Zah ⟨rfl,rfl,rfl,trivial⟩
 |true=>
  have hlt:i<X.length:=by have:=of_decide_eq_true h1;omega
  have gx:X[(i:Int).toNat]? =some X[i]:=by rw[Int.toNat_natCast];exact List.getElem?_eq_getElem hlt
  have hx:=hf _ (List.getElem_mem hlt)
  have et:o++ZaE [45,32] (X.take (i+1)) Y=(o++ZaE [45,32] (X.take i) Y)++ZaE [45,32] [X[i]] Y:=by
   rw[List.take_add_one,List.getElem?_eq_getElem hlt,ZcU,List.append_assoc];rfl
  have hb:(o++ZaE [45,32] (X.take i) Y).length≤2000:=by
   have:=ZcH [45,32] (X.take i) Y
   rw[List.length_take]at this
   rw[List.length_append];omega
  obtain⟨x,ex⟩: ∃x,X[i]=x:=⟨_,rfl⟩
  obtain⟨ac,ea⟩: ∃ac,o++ZaE [45,32] (X.take i) Y=ac:=⟨_,rfl⟩
  rw[ex]at gx hx et
  rw[ea]at et hb
  rw[ea]
  have hC:=Zf3 Y x hY
  have zC:(ac.length+1)*16≤140737488355328:=by omega
  have q1:([45,32]:Txt).length+x.length≤9223372036854775807:=by show 2+x.length≤_;omega
  refine Zae ?_
  refine Zaa ?_
  refine Zad ?_
  refine brT h1 ?_
  refine Zae ?_
  refine Za5 rfl (fun _=>rfl) (Int.natCast_nonneg i) gx rfl rfl ?_
  iterate 2 refine Zaa ?_
  refine Zad ?_
  cases h2:Zcf x Y with
  |true=>
   rw[h2]at hC
   have et:o++ZaE [45,32] (X.take (i+1)) Y=ac:=by rw[et];unfold ZaE;simp[h2]
   refine Zae ?_
   iterate 2 refine Zaa ?_
   refine Zaf rfl ((hC).mono ?_)
   rintro _ rfl
   refine Zab rfl rfl ?_
   refine Zaa ?_
   refine Zad ?_
   refine brF rfl ?_
   refine Zae ?_
   iterate 2 refine Zaa ?_
   refine Zad ?_
   refine⟨i+1,hlt,by show X.length-(i+1)<X.length-i;omega, ?_⟩
   show Ent 0 _ _ (zda X Y (o++ZaE [45,32] (X.take (i+1)) Y).length (i+1)) [.row .s (o++ZaE [45,32] (X.take (i+1)) Y) true]
   rw[et]
   exact Zah ⟨rfl,rfl,rfl,rfl,rfl,congrArg (fun x=>some (SV.v (.i .i64) x)) (ZaW (by omega)),trivial⟩
  |false=>
   rw[h2]at hC
   have et:o++ZaE [45,32] (X.take (i+1)) Y=ac++ [[45,32]++x]:=by rw[et];unfold ZaE;simp[h2]
   refine Zae ?_
   iterate 2 refine Zaa ?_
   refine Zaf rfl ((hC).mono ?_)
   rintro _ rfl
   refine Zab rfl rfl ?_
   refine Zaa ?_
   refine Zad ?_
   refine brT rfl ?_
   refine Zae ?_
   iterate 2 refine Zaa ?_
   refine Zag rfl (fun _=>rfl) q1 rfl rfl ?_
   refine ZaQ ?_
   refine Zaf rfl (Za8 rfl rfl rfl rfl rfl rfl rfl rfl rfl rfl (Za1 (a:=[.row .s ac true])) rfl zC ?_)
   refine Zab rfl rfl ?_
   refine Zaa ?_
   refine Zad ?_
   refine Zae ?_
   iterate 2 refine Zaa ?_
   refine Zad ?_
   refine⟨i+1,hlt,by show X.length-(i+1)<X.length-i;omega, ?_⟩
   show Ent 0 _ _ (zda X Y (o++ZaE [45,32] (X.take (i+1)) Y).length (i+1)) [.row .s (o++ZaE [45,32] (X.take (i+1)) Y) true]
   rw[et]
   exact Zhn (id:=2) rfl rfl ⟨rfl,ZaO,rfl,ZaO,Zb2 rfl,Zbl (by show 0<1;omega),rfl,ZaO,rfl,ZaO,congrArg (fun x=>some (SV.v (.i .i64) x)) (ZaW (by omega)),ZaO,trivial⟩
def zdb (X Y:List Txt) (k i:Nat):TM:=[(9, .v (.l .s) Y),(11, .ref 0 0 k none),(50, .v (.l .s) X),(51,nt X.length),(52,nt i)]
set_option maxHeartbeats 8000000 in
theorem ZsZ (X Y o:List Txt) (hX:X.length≤1000) (hY:Y.length≤1000) (ho:o.length≤1000) (hf: ∀s∈X,s.length≤1000000):
 LoopOK Tryd.prog Zax 0 ⟨6,0,67⟩ (ZaX Tryd.f6 17) (zdb X Y o.length 0) [.row .s o true]
 (fun e tm hp'=>e= .exit 4∧Ent 0 tm hp' [(9, .v (.l .s) Y),(11, .ref 0 0 (o++ZaE [43,32] X Y).length none)] [.row .s (o++ZaE [43,32] X Y) true]):=by
 refine ZaB Zaq rfl (fun i=>zdb X Y (o++ZaE [43,32] (X.take i) Y).length i) (fun i=> [.row .s (o++ZaE [43,32] (X.take i) Y) true]) (fun i=>i≤X.length) (fun i=>X.length-i) ?_ 0 (Nat.zero_le _) ?_
 case refine_2=>
  have e0:o++ZaE [43,32] (X.take 0) Y=o:=by rw[List.take_zero];exact List.append_nil o
  rw[e0];exact ZaC
 rintro i hi
 cases h1:decide ((i:Int)<(X.length:Int))with
 |false=>
  have e:i=X.length:=by have:=of_decide_eq_false h1;omega
  refine Zae ?_
  refine Zaa ?_
  refine Zad ?_
  refine brF h1 ?_
  refine⟨rfl, ?_⟩
  rw[e,List.take_length]
  exact Zah ⟨rfl,rfl,trivial⟩
 |true=>
  have hlt:i<X.length:=by have:=of_decide_eq_true h1;omega
  have gx:X[(i:Int).toNat]? =some X[i]:=by rw[Int.toNat_natCast];exact List.getElem?_eq_getElem hlt
  have hx:=hf _ (List.getElem_mem hlt)
  have et:o++ZaE [43,32] (X.take (i+1)) Y=(o++ZaE [43,32] (X.take i) Y)++ZaE [43,32] [X[i]] Y:=by
   rw[List.take_add_one,List.getElem?_eq_getElem hlt,ZcU,List.append_assoc];rfl
  have hb:(o++ZaE [43,32] (X.take i) Y).length≤2000:=by
   have:=ZcH [43,32] (X.take i) Y
   rw[List.length_take]at this
   rw[List.length_append];omega
  obtain⟨x,ex⟩: ∃x,X[i]=x:=⟨_,rfl⟩
  obtain⟨ac,ea⟩: ∃ac,o++ZaE [43,32] (X.take i) Y=ac:=⟨_,rfl⟩
  rw[ex]at gx hx et
  rw[ea]at et hb
  rw[ea]
  have hC:=Zf3 Y x hY
  have zC:(ac.length+1)*16≤140737488355328:=by omega
  have q1:([43,32]:Txt).length+x.length≤9223372036854775807:=by show 2+x.length≤_;omega
  refine Zae ?_
  refine Zaa ?_
  refine Zad ?_
  refine brT h1 ?_
  refine Zae ?_
  refine Za5 rfl (fun _=>rfl) (Int.natCast_nonneg i) gx rfl rfl ?_
  iterate 2 refine Zaa ?_
  refine Zad ?_
  cases h2:Zcf x Y with
  |true=>
   rw[h2]at hC
   have et:o++ZaE [43,32] (X.take (i+1)) Y=ac:=by rw[et];unfold ZaE;simp[h2]
   refine Zae ?_
   iterate 2 refine Zaa ?_
   refine Zaf rfl ((hC).mono ?_)
   rintro _ rfl
   refine Zab rfl rfl ?_
   refine Zaa ?_
   refine Zad ?_
   refine brF rfl ?_
   refine Zae ?_
   iterate 2 refine Zaa ?_
   refine Zad ?_
   refine⟨i+1,hlt,by show X.length-(i+1)<X.length-i;omega, ?_⟩
   show Ent 0 _ _ (zdb X Y (o++ZaE [43,32] (X.take (i+1)) Y).length (i+1)) [.row .s (o++ZaE [43,32] (X.take (i+1)) Y) true]
   rw[et]
   exact Zah ⟨rfl,rfl,rfl,rfl,congrArg (fun x=>some (SV.v (.i .i64) x)) (ZaW (by omega)),trivial⟩
  |false=>
   rw[h2]at hC
   have et:o++ZaE [43,32] (X.take (i+1)) Y=ac++ [[43,32]++x]:=by rw[et];unfold ZaE;simp[h2]
   refine Zae ?_
   iterate 2 refine Zaa ?_
   refine Zaf rfl ((hC).mono ?_)
   rintro _ rfl
   refine Zab rfl rfl ?_
   refine Zaa ?_
   refine Zad ?_
   refine brT rfl ?_
   refine Zae ?_
   iterate 2 refine Zaa ?_
   refine Zag rfl (fun _=>rfl) q1 rfl rfl ?_
   refine ZaQ ?_
   refine Zaf rfl (Za8 rfl rfl rfl rfl rfl rfl rfl rfl rfl rfl (Za1 (a:=[.row .s ac true])) rfl zC ?_)
   refine Zab rfl rfl ?_
   refine Zaa ?_
   refine Zad ?_
   refine Zae ?_
   iterate 2 refine Zaa ?_
   refine Zad ?_
   refine⟨i+1,hlt,by show X.length-(i+1)<X.length-i;omega, ?_⟩
   show Ent 0 _ _ (zdb X Y (o++ZaE [43,32] (X.take (i+1)) Y).length (i+1)) [.row .s (o++ZaE [43,32] (X.take (i+1)) Y) true]
   rw[et]
   exact Zhn (id:=2) rfl rfl ⟨rfl,ZaO,Zb2 rfl,Zbl (by show 0<1;omega),rfl,ZaO,rfl,ZaO,congrArg (fun x=>some (SV.v (.i .i64) x)) (ZaW (by omega)),ZaO,trivial⟩
abbrev ZtT:CT:= .p (.l .s) (.p (.l ZqV) (.p (.l ZrT) (.p (.l (.p .s (.p .s (.p (.i .i64) (.p (.i .i64) (.i .i64)))))) (.p (.l (.p .s (.p .s (.i .i64)))) (.l (.p .s (.p .s (.p (.i .i64) (.p (.i .i64) (.i .i64))))))))))
def ZtF (n:Ne.Net):ZtT.D:=(n.nodes,n.sws,n.brs,n.gens,n.loads,n.stores)
def zd (a b:Ne.Net) (i:Nat):TM:=[(2, .ptr 0 0 0),(3, .ptr 1 0 0),(18, .ref 2 0 2 none),(19,nt 2),(20,nt i)]
def hd (a b:Ne.Net):List SM:=[.cell (ZbB a) true, .cell (ZbB b) true, .row ZtT [ZtF a,ZtF b] true]
theorem Zol {a b:Ne.Net} {i:Nat} (h:i<2):[ZtF a,ZtF b][0+(i:Int).toNat]? =some (ZtF (if i=0 then a else b)):=by
 rw[Int.toNat_natCast,Nat.zero_add]
 match i,h with
 |0,_=>rfl
 |1,_=>rfl
set_option maxHeartbeats 16000000 in
theorem ZmW (a b:Ne.Net) (ha:Zbj a) (hb:Zbj b) (e:Int) (he:(ZbV a=e∧e≠0)∨(ZbV a=0∧ZbV b=e∧e≠0)):PureOK Tryd.prog Zax 6 [.agg (ZbB a), .agg (ZbB b)] (fun V=>V= .tup [.nils, .v (.i .i64) e]):=by
 refine Zav Zaq Tryd.func6 ?_
 refine Zae ?_
 refine ZaQ ?_
 refine ZaQ ?_
 iterate 2 refine Zaa ?_
 refine Zad ?_
 refine Zae ?_
 refine Zag rfl (fun _=>rfl) rfl rfl rfl ?_
 refine Zag rfl (fun _=>rfl) rfl rfl rfl ?_
 refine ZaQ ?_
 iterate 2 refine Zaa ?_
 refine Zad ?_
 refine ZaB Zaq rfl (zd a b) (fun _=>hd a b) (fun i=>i=0∨(i=1∧ZbV a=0)) (fun i=>2-i) ?_ 0 (.inl rfl) (Zah ⟨rfl,rfl,rfl,rfl,rfl,trivial⟩)
 rintro i hi
 have hlt:i<2:=by omega
 have h1:decide ((i:Int)<((2:Nat):Int))=true:=decide_eq_true (by omega)
 have gx:=Zol (a:=a) (b:=b) hlt
 have ci:(0:Int)≤(i:Int)∧(i:Int)<((2:Nat):Int):=by omega
 have key:(ZbV (if i=0 then a else b)=e∧e≠0)∨(ZbV (if i=0 then a else b)=0∧i=0∧ZbV a=0):=by
  rcases hi with rfl|⟨rfl,h0⟩
  ·rw[if_pos rfl];rcases he with he|⟨he,_⟩
   ·exact .inl he
   ·exact .inr ⟨he,rfl,he⟩
  ·rw[if_neg (by decide)];rcases he with he|⟨_,he⟩
   ·exact absurd (he.1.symm.trans h0) he.2
   ·exact .inl he
 have hz:Zbj (if i=0 then a else b):=by split<;>assumption
 have hC:=Zjt _ hz
 generalize(if i=0 then a else b)=x at*
 refine Zae ?_
 refine Zaa ?_
 refine Zad ?_
 refine brT h1 ?_
 refine Zae ?_
 refine Zaf rfl (Zcq rfl rfl rfl rfl rfl rfl rfl ci ?_)
 refine Zab rfl rfl ?_
 refine Zaf rfl (Zcr rfl rfl rfl gx rfl ?_)
 refine Zab rfl rfl ?_
 refine ZaQ ?_
 refine Zaf rfl (Zar rfl rfl rfl rfl rfl rfl rfl rfl ?_)
 refine Zaw rfl ?_
 refine Zad ?_
 refine Zae ?_
 refine Zag rfl (fun _=>rfl) rfl rfl rfl ?_
 refine Zaf rfl ((hC).mono ?_)
 rintro _ rfl
 refine Zab rfl rfl ?_
 refine Zaa ?_
 refine Zad ?_
 cases g:(!decide (ZbV x=0))with
 |true=>
  have hxe:ZbV x=e:=by
   rcases key with h|h
   ·exact h.1
   ·rw[h.1]at g;cases g
  refine Zae ?_
  iterate 2 refine Zaa ?_
  refine Zad ?_
  refine brT g ?_
  refine Zae ?_
  iterate 3 refine Zaa ?_
  refine Zad ?_
  refine ZaL ?_
  repeat (first|refine ZaA ?_|refine Zaz ?_|refine Zat ?_)
  rw[hxe];rfl
 |false=>
  have h0:i=0∧ZbV a=0:=by
   rcases key with h|h
   ·have:ZbV x=0:=by simpa using g
    exact absurd (h.1.symm.trans this) h.2
   ·exact h.2
  refine Zae ?_
  iterate 2 refine Zaa ?_
  refine Zad ?_
  refine brF g ?_
  refine Zae ?_
  iterate 2 refine Zaa ?_
  refine Zad ?_
  refine⟨i+1, .inr ⟨by omega,h0.2⟩,by show 2-(i+1)<2-i;omega, ?_⟩
  exact ZgU [0,1,2] ⟨rfl,rfl,rfl,rfl,rfl,rfl,trivial⟩ (by decide) ⟨rfl,ZaD (by show 0<3;omega),rfl,ZaD (by show 1<3;omega),rfl,Zbl (by show 2<3;omega),rfl,ZaO,congrArg (fun x=>some (SV.v (.i .i64) x)) (ZaW (by omega)),ZaO,trivial⟩
def ZfC (A B:List Txt):List Txt:=[]++ZaE [45,32] A B++ZaE [43,32] B A
set_option maxHeartbeats 16000000 in
theorem ZsG (a b:Ne.Net) (ha:Zbj a) (hb:Zbj b) (h0a:ZbV a=0) (h0b:ZbV b=0):PureOK Tryd.prog Zax 6 [.agg (ZbB a), .agg (ZbB b)] (fun V=>V= .tup [.v (.l .s) (ZfC (ZbW a) (ZbW b)), .v (.i .i64) (0:Int)]):=by
 refine Zav Zaq Tryd.func6 ?_
 have hfa:=ZfO h0a
 have hfb:=ZfO h0b
 have hA:=Zln a (Zdf h0a) (Zif hfa)
 have hB:=Zln b (Zdf h0b) (Zif hfb)
 have la:=Zdc (Zdf h0a)
 have lb:=Zdc (Zdf h0b)
 have ga:=Zdk hfa
 have gb:=Zdk hfb
 generalize ZbW a=A at*
 generalize ZbW b=B at*
 have l1:=Zta A B [] (by omega) (by omega) (Nat.zero_le _) ga
 have l2:=ZsZ B A ([]++ZaE [45,32] A B) (by omega) (by omega) (by have:=ZcH [45,32] A B;rw[List.nil_append];omega) gb
 refine Zae ?_
 refine ZaQ ?_
 refine ZaQ ?_
 iterate 2 refine Zaa ?_
 refine Zad ?_
 refine Zae ?_
 refine Zag rfl (fun _=>rfl) rfl rfl rfl ?_
 refine Zag rfl (fun _=>rfl) rfl rfl rfl ?_
 refine ZaQ ?_
 iterate 2 refine Zaa ?_
 refine Zad ?_
 refine ZaB Zaq rfl (zd a b) (fun _=>hd a b) (fun i=>i≤2) (fun i=>2-i) ?_ 0 (Nat.zero_le _) (Zah ⟨rfl,rfl,rfl,rfl,rfl,trivial⟩)
 rintro i hi
 cases h1:decide ((i:Int)<((2:Nat):Int))with
 |true=>
  have hlt:i<2:=by have:=of_decide_eq_true h1;omega
  have gx:=Zol (a:=a) (b:=b) hlt
  have ci:(0:Int)≤(i:Int)∧(i:Int)<((2:Nat):Int):=by omega
  have g:(!decide (ZbV (if i=0 then a else b)=0))=false:=by split<;>simp only[h0a,h0b,decide_true,Bool.not_true]
  have hz:Zbj (if i=0 then a else b):=by split<;>assumption
  have hC:=Zjt _ hz
  generalize(if i=0 then a else b)=x at*
  refine Zae ?_
  refine Zaa ?_
  refine Zad ?_
  refine brT h1 ?_
  refine Zae ?_
  refine Zaf rfl (Zcq rfl rfl rfl rfl rfl rfl rfl ci ?_)
  refine Zab rfl rfl ?_
  refine Zaf rfl (Zcr rfl rfl rfl gx rfl ?_)
  refine Zab rfl rfl ?_
  refine ZaQ ?_
  refine Zaf rfl (Zar rfl rfl rfl rfl rfl rfl rfl rfl ?_)
  refine Zaw rfl ?_
  refine Zad ?_
  refine Zae ?_
  refine Zag rfl (fun _=>rfl) rfl rfl rfl ?_
  refine Zaf rfl ((hC).mono ?_)
  rintro _ rfl
  refine Zab rfl rfl ?_
  refine Zaa ?_
  refine Zad ?_
  refine Zae ?_
  iterate 2 refine Zaa ?_
  refine Zad ?_
  refine brF g ?_
  refine Zae ?_
  iterate 2 refine Zaa ?_
  refine Zad ?_
  refine⟨i+1,hlt,by show 2-(i+1)<2-i;omega, ?_⟩
  exact ZgU [0,1,2] ⟨rfl,rfl,rfl,rfl,rfl,rfl,trivial⟩ (by decide) ⟨rfl,ZaD (by show 0<3;omega),rfl,ZaD (by show 1<3;omega),rfl,Zbl (by show 2<3;omega),rfl,ZaO,congrArg (fun x=>some (SV.v (.i .i64) x)) (ZaW (by omega)),ZaO,trivial⟩
 |false=>
  refine Zae ?_
  refine Zaa ?_
  refine Zad ?_
  refine brF h1 ?_
  refine Zae ?_
  refine Zag rfl (fun _=>rfl) rfl rfl rfl ?_
  refine Zaf rfl ((hA).mono ?_)
  rintro _ rfl
  refine Zab rfl rfl ?_
  refine Zag rfl (fun _=>rfl) rfl rfl rfl ?_
  refine Zaf rfl ((hB).mono ?_)
  rintro _ rfl
  refine Zab rfl rfl ?_
  iterate 2 refine Zaa ?_
  refine Zad ?_
  refine Zae ?_
  refine Zaa ?_
  refine Zad ?_
  refine Zae ?_
  iterate 3 refine Zaa ?_
  refine Zad ?_
  refine(l1.ent ?_).through ?_
  ·refine Ent.trans (tm1:=[(9, .v (.l .s) A),(10, .v (.l .s) B),(11, .nils),(34, .v (.l .s) A),(35,nt A.length),(36,nt 0)]) (hp1:=[]) (Zbc ⟨rfl,rfl,rfl,rfl,rfl,rfl,rfl,rfl,rfl,rfl,rfl,rfl,trivial⟩) ?_
   refine Zer (k:=11) (Nat.zero_le _) rfl (fun a V ha h=> ?_) rfl
   have hb:Nat.beq a 11=false:=by
    cases hb:Nat.beq a 11 with
    |true=>exact absurd (Nat.eq_of_beq_eq_true hb) ha
    |false=>rfl
   simp only[zda,Zck,hb]at h⊢
   exact h
  rintro _ tm hp' ⟨rfl,hE⟩
  refine⟨_,_,hE, ?_⟩
  show wp _ _ _ _ _ _ _ _ _
  refine Zae ?_
  iterate 3 refine Zaa ?_
  refine Zad ?_
  refine(l2.ent ?_).through ?_
  ·exact Zah ⟨rfl,rfl,rfl,rfl,rfl,trivial⟩
  rintro _ tm hp' ⟨rfl,hE⟩
  refine⟨_,_,hE, ?_⟩
  show wp _ _ _ _ _ _ _ _ _
  refine Zae ?_
  iterate 3 refine Zaa ?_
  refine Zad ?_
  refine⟨Nat.le_of_eq (Nat.zero_add _), ?_⟩
  exact congrArg (fun z=>SV.tup [.v (.l .s) z, .v (.i .i64) (0:Int)]) (ZcQ rfl)
end Go.Proofs.YtbdkglokkepmfaaDoor
