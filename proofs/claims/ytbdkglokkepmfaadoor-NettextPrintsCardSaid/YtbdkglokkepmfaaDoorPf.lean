/-
 The law NettextPrints. (Printed by tools/gendiff.py.)
-/
import Derived.Test.YtbdkglokkepmfaaDoorPe
import Derived.Test.YtbdkglokkepmfaaDoorUG
set_option linter.constructorNameAsVariable false
set_option linter.unusedSimpArgs false
set_option linter.unusedVariables false
namespace Go.Proofs.YtbdkglokkepmfaaDoor
open Go.Am Go.Tx Ne
set_option maxRecDepth 100000
def zlp (P:Txt) (p:Int) (D:SV) (d:Int) (l:List Txt) (i:Nat):TM:=[(3, .ptr 1 0 0),(5, .v .s P),(6, .v (.i .i64) p),(7,D),(8, .v (.i .i64) d),(10, .v (.l .s) l),(11, .v .s (ZgP (l.take i))),(60, .v (.l .s) l),(61,nt l.length),(62,nt i)]
set_option maxHeartbeats 8000000 in
theorem Zpl (P:Txt) (p:Int) (D:SV) (d:Int) (H:List SM) (l:List Txt) (hl:l.length≤1000) (hf: ∀s∈l,s.length≤1000000):
 LoopOK Tryd.prog Zax 0 ⟨3,0,140⟩ (ZaX Tryd.f3 13) (zlp P p D d l 0) H
 (fun e tm hp'=>e= .exit 0∧Ent 0 tm hp' [(3, .ptr 1 0 0),(5, .v .s P),(6, .v (.i .i64) p),(7,D),(8, .v (.i .i64) d),(10, .v (.l .s) l),(11, .v .s (ZgP l))] H):=by
 refine ZaB Zaq rfl (zlp P p D d l) (fun _=>H) (fun i=>i≤l.length) (fun i=>l.length-i) ?_ 0 (Nat.zero_le _) ZaC
 rintro i hi
 cases h1:decide ((i:Int)<(l.length:Int))with
 |false=>
  have e:i=l.length:=by have:=of_decide_eq_false h1;omega
  refine Zae ?_
  refine Zaa ?_
  refine Zad ?_
  refine brF h1 ?_
  refine⟨rfl, ?_⟩
  rw[e]
  exact Zah ⟨rfl,rfl,rfl,rfl,rfl,rfl,congrArg (fun x=>some (SV.v .s (ZgP x))) (List.take_length (l:=l)),trivial⟩
 |true=>
  have hlt:i<l.length:=by have:=of_decide_eq_true h1;omega
  have gx:l[(i:Int).toNat]? =some l[i]:=by rw[Int.toNat_natCast];exact List.getElem?_eq_getElem hlt
  have hx:=hf _ (List.getElem_mem hlt)
  have et:ZgP (l.take (i+1))=ZgP (l.take i)++(l[i]++ [10]):=Zfm hlt
  have hb:(ZgP (l.take i)).length≤(l.take i).length*1000001:=ZdD fun w hw=>by rw[List.length_append,List.length_singleton];have:=hf w (ZgW hw);omega
  rw[List.length_take]at hb
  obtain⟨x,ex⟩: ∃x,l[i]=x:=⟨_,rfl⟩
  rw[ex]at gx hx et
  have q1:x.length+([10]:Txt).length≤9223372036854775807:=by rw[List.length_singleton];omega
  have q2:(ZgP (l.take i)).length+(x++ [10]).length≤9223372036854775807:=by rw[List.length_append,List.length_singleton];omega
  refine Zae ?_
  refine Zaa ?_
  refine Zad ?_
  refine brT h1 ?_
  refine Zae ?_
  refine Za5 rfl (fun _=>rfl) (Int.natCast_nonneg i) gx rfl rfl ?_
  iterate 2 refine Zaa ?_
  refine Zad ?_
  refine Zae ?_
  iterate 2 refine Zaa ?_
  refine Zag rfl (fun _=>rfl) q1 rfl rfl ?_
  refine Zag rfl (fun _=>rfl) q2 rfl rfl ?_
  refine Zaa ?_
  refine Zad ?_
  refine Zae ?_
  iterate 2 refine Zaa ?_
  refine Zad ?_
  refine⟨i+1,hlt,by show l.length-(i+1)<l.length-i;omega, ?_⟩
  exact Zah ⟨rfl,rfl,rfl,rfl,rfl,rfl,congrArg (fun x=>some (SV.v .s x)) et.symm,rfl,rfl,congrArg (fun x=>some (SV.v (.i .i64) x)) (ZaW (by omega)),trivial⟩
def zld (D:List Txt) (X Y:List Txt) (k i:Nat):TM:=[(7, .v (.l .s) D),(8, .v (.i .i64) (0:Int)),(10, .v (.l .s) X),(14, .v (.l .s) Y),(15, .ref 0 0 k none),(101, .v (.l .s) X),(102,nt X.length),(103,nt i)]
set_option maxHeartbeats 8000000 in
theorem Zs8 (D:List Txt) (X Y o:List Txt) (hX:X.length≤1000) (hY:Y.length≤1000) (ho:o.length≤1000) (hf: ∀s∈X,s.length≤1000000):
 LoopOK Tryd.prog Zax 0 ⟨3,0,140⟩ (ZaX Tryd.f3 28) (zld D X Y o.length 0) [.row .s o true]
 (fun e tm hp'=>e= .exit 2∧Ent 0 tm hp' [(7, .v (.l .s) D),(8, .v (.i .i64) (0:Int)),(10, .v (.l .s) X),(14, .v (.l .s) Y),(15, .ref 0 0 (o++ZaE [45,32] X Y).length none)] [.row .s (o++ZaE [45,32] X Y) true]):=by
 refine ZaB Zaq rfl (fun i=>zld D X Y (o++ZaE [45,32] (X.take i) Y).length i) (fun i=> [.row .s (o++ZaE [45,32] (X.take i) Y) true]) (fun i=>i≤X.length) (fun i=>X.length-i) ?_ 0 (Nat.zero_le _) ?_
 case refine_2=>
  have e0:o++ZaE [45,32] (X.take 0) Y=o:=by rw[List.take_zero];exact List.append_nil o
  rw[e0];exact ZaC
 rintro i hi
 cases h1:decide ((i:Int)<(X.length:Int))with
 |false=>
  have e:i=X.length:=by have:=of_decide_eq_false h1;omega
  refine Zae ?_
  refine Zaa ?_
  refine Zad ?_
  refine brF h1 ?_
  refine⟨rfl, ?_⟩
  rw[e,List.take_length]
  exact Zah ⟨rfl,rfl,rfl,rfl,rfl,trivial⟩
 |true=>
  have hlt:i<X.length:=by have:=of_decide_eq_true h1;omega
  have gx:X[(i:Int).toNat]? =some X[i]:=by rw[Int.toNat_natCast];exact List.getElem?_eq_getElem hlt
  have hx:=hf _ (List.getElem_mem hlt)
  have et:o++ZaE [45,32] (X.take (i+1)) Y=(o++ZaE [45,32] (X.take i) Y)++ZaE [45,32] [X[i]] Y:=by
   rw[List.take_add_one,List.getElem?_eq_getElem hlt,ZcU,List.append_assoc];rfl
  have hb:(o++ZaE [45,32] (X.take i) Y).length≤2000:=by
   have:=ZcH [45,32] (X.take i) Y
   rw[List.length_take]at this
   rw[List.length_append];omega
  obtain⟨x,ex⟩: ∃x,X[i]=x:=⟨_,rfl⟩
  obtain⟨ac,ea⟩: ∃ac,o++ZaE [45,32] (X.take i) Y=ac:=⟨_,rfl⟩
  rw[ex]at gx hx et
  rw[ea]at et hb
  rw[ea]
  have hC:=Zrf Y x hY
  have zC:(ac.length+1)*16≤140737488355328:=by omega
  have q1:([45,32]:Txt).length+x.length≤9223372036854775807:=by show 2+x.length≤_;omega
  refine Zae ?_
  refine Zaa ?_
  refine Zad ?_
  refine brT h1 ?_
  refine Zae ?_
  refine Za5 rfl (fun _=>rfl) (Int.natCast_nonneg i) gx rfl rfl ?_
  iterate 2 refine Zaa ?_
  refine Zad ?_
  cases h2:Zcf x Y with
  |true=>
   rw[h2]at hC
   have et:o++ZaE [45,32] (X.take (i+1)) Y=ac:=by rw[et];unfold ZaE;simp[h2]
   refine Zae ?_
   iterate 2 refine Zaa ?_
   refine Zaf rfl ((hC).mono ?_)
   rintro _ rfl
   refine Zab rfl rfl ?_
   refine Zaa ?_
   refine Zad ?_
   refine brF rfl ?_
   refine Zae ?_
   iterate 2 refine Zaa ?_
   refine Zad ?_
   refine⟨i+1,hlt,by show X.length-(i+1)<X.length-i;omega, ?_⟩
   show Ent 0 _ _ (zld D X Y (o++ZaE [45,32] (X.take (i+1)) Y).length (i+1)) [.row .s (o++ZaE [45,32] (X.take (i+1)) Y) true]
   rw[et]
   exact Zah ⟨rfl,rfl,rfl,rfl,rfl,rfl,rfl,congrArg (fun x=>some (SV.v (.i .i64) x)) (ZaW (by omega)),trivial⟩
  |false=>
   rw[h2]at hC
   have et:o++ZaE [45,32] (X.take (i+1)) Y=ac++ [[45,32]++x]:=by rw[et];unfold ZaE;simp[h2]
   refine Zae ?_
   iterate 2 refine Zaa ?_
   refine Zaf rfl ((hC).mono ?_)
   rintro _ rfl
   refine Zab rfl rfl ?_
   refine Zaa ?_
   refine Zad ?_
   refine brT rfl ?_
   refine Zae ?_
   iterate 2 refine Zaa ?_
   refine Zag rfl (fun _=>rfl) q1 rfl rfl ?_
   refine ZaQ ?_
   refine Zaf rfl (Za8 rfl rfl rfl rfl rfl rfl rfl rfl rfl rfl (Za1 (a:=[.row .s ac true])) rfl zC ?_)
   refine Zab rfl rfl ?_
   refine Zaa ?_
   refine Zad ?_
   refine Zae ?_
   iterate 2 refine Zaa ?_
   refine Zad ?_
   refine⟨i+1,hlt,by show X.length-(i+1)<X.length-i;omega, ?_⟩
   show Ent 0 _ _ (zld D X Y (o++ZaE [45,32] (X.take (i+1)) Y).length (i+1)) [.row .s (o++ZaE [45,32] (X.take (i+1)) Y) true]
   rw[et]
   exact Zhn (id:=2) rfl rfl ⟨rfl,ZaO,rfl,ZaO,rfl,ZaO,rfl,ZaO,Zb2 rfl,Zbl (by show 0<1;omega),rfl,ZaO,rfl,ZaO,congrArg (fun x=>some (SV.v (.i .i64) x)) (ZaW (by omega)),ZaO,trivial⟩
def zle (D:List Txt) (X Y:List Txt) (k i:Nat):TM:=[(7, .v (.l .s) D),(8, .v (.i .i64) (0:Int)),(10, .v (.l .s) Y),(15, .ref 0 0 k none),(117, .v (.l .s) X),(118,nt X.length),(119,nt i)]
set_option maxHeartbeats 8000000 in
theorem ZsT (D:List Txt) (X Y o:List Txt) (hX:X.length≤1000) (hY:Y.length≤1000) (ho:o.length≤1000) (hf: ∀s∈X,s.length≤1000000):
 LoopOK Tryd.prog Zax 0 ⟨3,0,140⟩ (ZaX Tryd.f3 34) (zle D X Y o.length 0) [.row .s o true]
 (fun e tm hp'=>e= .exit 4∧Ent 0 tm hp' [(7, .v (.l .s) D),(8, .v (.i .i64) (0:Int)),(10, .v (.l .s) Y),(15, .ref 0 0 (o++ZaE [43,32] X Y).length none)] [.row .s (o++ZaE [43,32] X Y) true]):=by
 refine ZaB Zaq rfl (fun i=>zle D X Y (o++ZaE [43,32] (X.take i) Y).length i) (fun i=> [.row .s (o++ZaE [43,32] (X.take i) Y) true]) (fun i=>i≤X.length) (fun i=>X.length-i) ?_ 0 (Nat.zero_le _) ?_
 case refine_2=>
  have e0:o++ZaE [43,32] (X.take 0) Y=o:=by rw[List.take_zero];exact List.append_nil o
  rw[e0];exact ZaC
 rintro i hi
 cases h1:decide ((i:Int)<(X.length:Int))with
 |false=>
  have e:i=X.length:=by have:=of_decide_eq_false h1;omega
  refine Zae ?_
  refine Zaa ?_
  refine Zad ?_
  refine brF h1 ?_
  refine⟨rfl, ?_⟩
  rw[e,List.take_length]
  exact Zah ⟨rfl,rfl,rfl,rfl,trivial⟩
 |true=>
  have hlt:i<X.length:=by have:=of_decide_eq_true h1;omega
  have gx:X[(i:Int).toNat]? =some X[i]:=by rw[Int.toNat_natCast];exact List.getElem?_eq_getElem hlt
  have hx:=hf _ (List.getElem_mem hlt)
  have et:o++ZaE [43,32] (X.take (i+1)) Y=(o++ZaE [43,32] (X.take i) Y)++ZaE [43,32] [X[i]] Y:=by
   rw[List.take_add_one,List.getElem?_eq_getElem hlt,ZcU,List.append_assoc];rfl
  have hb:(o++ZaE [43,32] (X.take i) Y).length≤2000:=by
   have:=ZcH [43,32] (X.take i) Y
   rw[List.length_take]at this
   rw[List.length_append];omega
  obtain⟨x,ex⟩: ∃x,X[i]=x:=⟨_,rfl⟩
  obtain⟨ac,ea⟩: ∃ac,o++ZaE [43,32] (X.take i) Y=ac:=⟨_,rfl⟩
  rw[ex]at gx hx et
  rw[ea]at et hb
  rw[ea]
  have hC:=Zrf Y x hY
  have zC:(ac.length+1)*16≤140737488355328:=by omega
  have q1:([43,32]:Txt).length+x.length≤9223372036854775807:=by show 2+x.length≤_;omega
  refine Zae ?_
  refine Zaa ?_
  refine Zad ?_
  refine brT h1 ?_
  refine Zae ?_
  refine Za5 rfl (fun _=>rfl) (Int.natCast_nonneg i) gx rfl rfl ?_
  iterate 2 refine Zaa ?_
  refine Zad ?_
  cases h2:Zcf x Y with
  |true=>
   rw[h2]at hC
   have et:o++ZaE [43,32] (X.take (i+1)) Y=ac:=by rw[et];unfold ZaE;simp[h2]
   refine Zae ?_
   iterate 2 refine Zaa ?_
   refine Zaf rfl ((hC).mono ?_)
   rintro _ rfl
   refine Zab rfl rfl ?_
   refine Zaa ?_
   refine Zad ?_
   refine brF rfl ?_
   refine Zae ?_
   iterate 2 refine Zaa ?_
   refine Zad ?_
   refine⟨i+1,hlt,by show X.length-(i+1)<X.length-i;omega, ?_⟩
   show Ent 0 _ _ (zle D X Y (o++ZaE [43,32] (X.take (i+1)) Y).length (i+1)) [.row .s (o++ZaE [43,32] (X.take (i+1)) Y) true]
   rw[et]
   exact Zah ⟨rfl,rfl,rfl,rfl,rfl,rfl,congrArg (fun x=>some (SV.v (.i .i64) x)) (ZaW (by omega)),trivial⟩
  |false=>
   rw[h2]at hC
   have et:o++ZaE [43,32] (X.take (i+1)) Y=ac++ [[43,32]++x]:=by rw[et];unfold ZaE;simp[h2]
   refine Zae ?_
   iterate 2 refine Zaa ?_
   refine Zaf rfl ((hC).mono ?_)
   rintro _ rfl
   refine Zab rfl rfl ?_
   refine Zaa ?_
   refine Zad ?_
   refine brT rfl ?_
   refine Zae ?_
   iterate 2 refine Zaa ?_
   refine Zag rfl (fun _=>rfl) q1 rfl rfl ?_
   refine ZaQ ?_
   refine Zaf rfl (Za8 rfl rfl rfl rfl rfl rfl rfl rfl rfl rfl (Za1 (a:=[.row .s ac true])) rfl zC ?_)
   refine Zab rfl rfl ?_
   refine Zaa ?_
   refine Zad ?_
   refine Zae ?_
   iterate 2 refine Zaa ?_
   refine Zad ?_
   refine⟨i+1,hlt,by show X.length-(i+1)<X.length-i;omega, ?_⟩
   show Ent 0 _ _ (zle D X Y (o++ZaE [43,32] (X.take (i+1)) Y).length (i+1)) [.row .s (o++ZaE [43,32] (X.take (i+1)) Y) true]
   rw[et]
   exact Zhn (id:=2) rfl rfl ⟨rfl,ZaO,rfl,ZaO,rfl,ZaO,Zb2 rfl,Zbl (by show 0<1;omega),rfl,ZaO,rfl,ZaO,congrArg (fun x=>some (SV.v (.i .i64) x)) (ZaW (by omega)),ZaO,trivial⟩
set_option maxHeartbeats 16000000 in
theorem Zsd (a b:Ne.Net) (ha:Zbj a) (hb:Zbj b) (h:(!decide (ZbV a=0))=true):PureOK Tryd.prog Zax 3 [.agg (ZbB a), .agg (ZbB b)] (fun V=>V= .v .b true):=by
 refine Zav Zaq Tryd.func3 ?_
 have hP:=ZpS a ha h
 have hD:=ZmW a b ha hb (ZbV a) (.inl ⟨rfl,fun e=>by rw[e]at h;cases h⟩)
 have hN:=Zdm a
 generalize ZbV a=e at*
 have hne:(!decide (e=e))=false:=by rw[decide_eq_true rfl];rfl
 refine Zae ?_
 refine ZaQ ?_
 refine ZaQ ?_
 refine Zaa ?_
 refine Zad ?_
 refine Zae ?_
 refine Zaf rfl ((ZpI).mono ?_)
 rintro _ rfl
 refine Zab rfl rfl ?_
 refine Zaa ?_
 refine Zad ?_
 refine brF rfl ?_
 refine Zae ?_
 refine Zag rfl (fun _=>rfl) rfl rfl rfl ?_
 refine Zaf rfl ((hP).mono ?_)
 rintro _ rfl
 refine Zab rfl rfl ?_
 iterate 5 refine Zaa ?_
 refine Zad ?_
 refine Zae ?_
 refine Zag rfl (fun _=>rfl) rfl rfl rfl ?_
 refine Zag rfl (fun _=>rfl) rfl rfl rfl ?_
 refine Zaf rfl ((hD).mono ?_)
 rintro _ rfl
 refine Zab rfl rfl ?_
 iterate 5 refine Zaa ?_
 refine Zad ?_
 refine Zae ?_
 refine Zag rfl (fun _=>rfl) rfl rfl rfl ?_
 refine Zaf rfl ((hN).mono ?_)
 rintro _ rfl
 refine Zab rfl rfl ?_
 refine Zaa ?_
 refine Zad ?_
 refine Zae ?_
 iterate 3 refine Zaa ?_
 refine Zac h ?_
 refine Zac h ?_
 refine Zac h ?_
 refine Zac h ?_
 refine Zac hne ?_
 refine Zac hne ?_
 refine Zac hne ?_
 refine Zb4 rfl rfl rfl h rfl rfl hne rfl rfl rfl ?_
 refine Zac h ?_
 refine Zac hne ?_
 refine Zac hne ?_
 refine Zb4 rfl rfl rfl h rfl rfl hne rfl rfl rfl ?_
 refine Zac h ?_
 refine Zac rfl ?_
 refine Zac rfl ?_
 refine Zac rfl ?_
 refine Zb4 rfl rfl rfl h rfl rfl rfl rfl rfl rfl ?_
 refine Zas h ?_
 refine Zad ?_
 refine And.intro (fun h=>absurd (show false=true from h) Bool.false_ne_true) (fun _=> ?_)
 refine Zae ?_
 iterate 2 refine Zaa ?_
 refine Zad ?_
 refine brT h ?_
 refine Zae ?_
 refine Zaa ?_
 refine Zad ?_
 rfl
set_option maxHeartbeats 16000000 in
theorem Zp6 (a b:Ne.Net) (ha:Zbj a) (hb:Zbj b) (h:(!decide (ZbV a=0))=false) (g2:(!decide (ZbV b=0))=true):PureOK Tryd.prog Zax 3 [.agg (ZbB a), .agg (ZbB b)] (fun V=>V= .v .b true):=by
 refine Zav Zaq Tryd.func3 ?_
 have hP:=ZmS a ha h
 have hN:=Zdm a
 have h0:ZbV a=0:=by simpa using h
 have hfa:=ZfO h0
 have hLa:=ZfW a (Zdf h0) (Zif hfa)
 have la:=Zdc (Zdf h0)
 have ga:=Zdk hfa
 have hNb:=Zdm b
 have hD:=ZmW a b ha hb (ZbV b) (.inr ⟨h0,rfl,fun e=>by rw[e]at g2;cases g2⟩)
 generalize ZbW a=A at*
 have l1:=Zpl (ZcE A).1 (ZcE A).2 .nils (ZbV b) [.cell (ZbB a) true, .cell (ZbB b) true] A (by omega) ga
 generalize ZbV b=e at*
 have hee:decide (e=e)=true:=decide_eq_true rfl
 refine Zae ?_
 refine ZaQ ?_
 refine ZaQ ?_
 refine Zaa ?_
 refine Zad ?_
 refine Zae ?_
 refine Zaf rfl ((ZpI).mono ?_)
 rintro _ rfl
 refine Zab rfl rfl ?_
 refine Zaa ?_
 refine Zad ?_
 refine brF rfl ?_
 refine Zae ?_
 refine Zag rfl (fun _=>rfl) rfl rfl rfl ?_
 refine Zaf rfl ((hP).mono ?_)
 rintro _ rfl
 refine Zab rfl rfl ?_
 iterate 5 refine Zaa ?_
 refine Zad ?_
 refine Zae ?_
 refine Zag rfl (fun _=>rfl) rfl rfl rfl ?_
 refine Zag rfl (fun _=>rfl) rfl rfl rfl ?_
 refine Zaf rfl ((hD).mono ?_)
 rintro _ rfl
 refine Zab rfl rfl ?_
 iterate 5 refine Zaa ?_
 refine Zad ?_
 refine Zae ?_
 refine Zag rfl (fun _=>rfl) rfl rfl rfl ?_
 refine Zaf rfl ((hN).mono ?_)
 rintro _ rfl
 refine Zab rfl rfl ?_
 refine Zaa ?_
 refine Zad ?_
 refine Zae ?_
 iterate 3 refine Zaa ?_
 refine Zai h ?_
 refine Zai h ?_
 refine Zai h ?_
 refine Zai h ?_
 refine Zh5 ?_
 refine Zh5 ?_
 refine Zh5 ?_
 refine Zai h ?_
 refine Zai h ?_
 refine Zh5 ?_
 refine Zh5 ?_
 refine Zai h ?_
 refine Zai h ?_
 refine Zh5 ?_
 refine Zh5 ?_
 refine Zh5 ?_
 refine Zai h ?_
 refine Zap h ?_
 refine Zad ?_
 refine brF rfl ?_
 refine Zae ?_
 iterate 2 refine Zaa ?_
 refine Zad ?_
 refine brF h ?_
 refine Zae ?_
 refine Zag rfl (fun _=>rfl) rfl rfl rfl ?_
 refine Zaf rfl ((hLa).mono ?_)
 rintro _ rfl
 refine Zab rfl rfl ?_
 refine Zaa ?_
 refine Zad ?_
 refine Zae ?_
 refine Zaa ?_
 refine Zad ?_
 refine Zae ?_
 iterate 3 refine Zaa ?_
 refine Zad ?_
 refine(l1.ent ?_).through ?_
 ·exact Zah ⟨rfl,rfl,rfl,rfl,rfl,rfl,rfl,rfl,rfl,rfl,trivial⟩
 rintro _ tm hp' ⟨rfl,hE⟩
 refine⟨_,_,hE, ?_⟩
 show wp _ _ _ _ _ _ _ _ _
 have hoo:(!(ZgP A==ZgP A))=false:=by simp
 cases g:decide (((ZgP A).length:Int)>8192)with
 |true=>
  have ep:ZcE A=([],2):=by rw[ZcE,g];rfl
  rw[ep]
  refine Zae ?_
  iterate 3 refine Zaa ?_
  refine Zad ?_
  refine brT g ?_
  refine Zae ?_
  iterate 3 refine Zaa ?_
  refine Zac rfl ?_
  refine Zac rfl ?_
  refine Zap rfl ?_
  refine Zad ?_
  refine And.intro (fun h=>absurd (show false=true from h) Bool.false_ne_true) (fun _=> ?_)
  refine Zae ?_
  refine Zag rfl (fun _=>rfl) rfl rfl rfl ?_
  refine Zaf rfl ((hNb).mono ?_)
  rintro _ rfl
  refine Zab rfl rfl ?_
  refine Zaa ?_
  refine Zad ?_
  refine Zae ?_
  iterate 2 refine Zaa ?_
  refine Zad ?_
  refine brT g2 ?_
  refine Zae ?_
  iterate 4 refine Zaa ?_
  refine Zac hee ?_
  refine Zac hee ?_
  refine Zac hee ?_
  refine Zas hee ?_
  refine Zaa ?_
  refine Zad ?_
  rfl
 |false=>
  have ep:ZcE A=(ZgP A,0):=by rw[ZcE,g];rfl
  rw[ep]
  refine Zae ?_
  iterate 3 refine Zaa ?_
  refine Zad ?_
  refine brF g ?_
  refine Zae ?_
  iterate 3 refine Zaa ?_
  refine Zac rfl ?_
  refine Zac rfl ?_
  refine Zac rfl ?_
  refine Zap rfl ?_
  refine Zad ?_
  refine And.intro (fun h=>by first|exact(nf h hoo).elim|exact absurd (show false=true from h) Bool.false_ne_true) (fun _=> ?_)
  refine Zae ?_
  refine Zag rfl (fun _=>rfl) rfl rfl rfl ?_
  refine Zaf rfl ((hNb).mono ?_)
  rintro _ rfl
  refine Zab rfl rfl ?_
  refine Zaa ?_
  refine Zad ?_
  refine Zae ?_
  iterate 2 refine Zaa ?_
  refine Zad ?_
  refine brT g2 ?_
  refine Zae ?_
  iterate 4 refine Zaa ?_
  refine Zac hee ?_
  refine Zac hee ?_
  refine Zac hee ?_
  refine Zas hee ?_
  refine Zaa ?_
  refine Zad ?_
  rfl
set_option maxHeartbeats 16000000 in
theorem Zqk (a b:Ne.Net) (ha:Zbj a) (hb:Zbj b) (h:(!decide (ZbV a=0))=false) (g2:(!decide (ZbV b=0))=false):PureOK Tryd.prog Zax 3 [.agg (ZbB a), .agg (ZbB b)] (fun V=>V= .v .b true):=by
 refine Zav Zaq Tryd.func3 ?_
 have hP:=ZmS a ha h
 have hN:=Zdm a
 have h0:ZbV a=0:=by simpa using h
 have hfa:=ZfO h0
 have hLa:=ZfW a (Zdf h0) (Zif hfa)
 have la:=Zdc (Zdf h0)
 have ga:=Zdk hfa
 have hNb:=Zdm b
 have h0b:ZbV b=0:=by simpa using g2
 have hD:=ZsG a b ha hb h0 h0b
 have hfb:=ZfO h0b
 have hLb:=ZfW b (Zdf h0b) (Zif hfb)
 have lb:=Zdc (Zdf h0b)
 have gb:=Zdk hfb
 generalize ZbW a=A at*
 generalize ZbW b=B at*
 have l1:=Zpl (ZcE A).1 (ZcE A).2 (.v (.l .s) (ZfC A B)) (0:Int) [.cell (ZbB a) true, .cell (ZbB b) true] A (by omega) ga
 have lk:=ZcH [45,32] A B
 have lk2:=ZcH [43,32] B A
 have l2:=Zs8 (ZfC A B) A B [] (by omega) (by omega) (Nat.zero_le _) ga
 have l3:=ZsT (ZfC A B) B A ([]++ZaE [45,32] A B) (by omega) (by omega) (by rw[List.nil_append];omega) gb
 have hQ:=ZsY (ZfC A B) (ZfC A B) (by simp only[ZfC,List.length_append,List.length_nil];omega)
 have hQ:PureOK Tryd.prog Zax 10 [.v (.l .s) (ZfC A B), .v (.l .s) (sub (ZfC A B) 0 (ZfC A B).length)] (fun V=>V= .v .b (decide (ZfC A B=ZfC A B))):=by rw[ZcQ rfl];exact hQ
 refine Zae ?_
 refine ZaQ ?_
 refine ZaQ ?_
 refine Zaa ?_
 refine Zad ?_
 refine Zae ?_
 refine Zaf rfl ((ZpI).mono ?_)
 rintro _ rfl
 refine Zab rfl rfl ?_
 refine Zaa ?_
 refine Zad ?_
 refine brF rfl ?_
 refine Zae ?_
 refine Zag rfl (fun _=>rfl) rfl rfl rfl ?_
 refine Zaf rfl ((hP).mono ?_)
 rintro _ rfl
 refine Zab rfl rfl ?_
 iterate 5 refine Zaa ?_
 refine Zad ?_
 refine Zae ?_
 refine Zag rfl (fun _=>rfl) rfl rfl rfl ?_
 refine Zag rfl (fun _=>rfl) rfl rfl rfl ?_
 refine Zaf rfl ((hD).mono ?_)
 rintro _ rfl
 refine Zab rfl rfl ?_
 iterate 5 refine Zaa ?_
 refine Zad ?_
 refine Zae ?_
 refine Zag rfl (fun _=>rfl) rfl rfl rfl ?_
 refine Zaf rfl ((hN).mono ?_)
 rintro _ rfl
 refine Zab rfl rfl ?_
 refine Zaa ?_
 refine Zad ?_
 refine Zae ?_
 iterate 3 refine Zaa ?_
 refine Zai h ?_
 refine Zai h ?_
 refine Zai h ?_
 refine Zai h ?_
 refine Zh5 ?_
 refine Zh5 ?_
 refine Zh5 ?_
 refine Zai h ?_
 refine Zai h ?_
 refine Zh5 ?_
 refine Zh5 ?_
 refine Zai h ?_
 refine Zai h ?_
 refine Zh5 ?_
 refine Zh5 ?_
 refine Zh5 ?_
 refine Zai h ?_
 refine Zap h ?_
 refine Zad ?_
 refine brF rfl ?_
 refine Zae ?_
 iterate 2 refine Zaa ?_
 refine Zad ?_
 refine brF h ?_
 refine Zae ?_
 refine Zag rfl (fun _=>rfl) rfl rfl rfl ?_
 refine Zaf rfl ((hLa).mono ?_)
 rintro _ rfl
 refine Zab rfl rfl ?_
 refine Zaa ?_
 refine Zad ?_
 refine Zae ?_
 refine Zaa ?_
 refine Zad ?_
 refine Zae ?_
 iterate 3 refine Zaa ?_
 refine Zad ?_
 refine(l1.ent ?_).through ?_
 ·exact Zah ⟨rfl,rfl,rfl,rfl,rfl,rfl,rfl,rfl,rfl,rfl,trivial⟩
 rintro _ tm hp' ⟨rfl,hE⟩
 refine⟨_,_,hE, ?_⟩
 show wp _ _ _ _ _ _ _ _ _
 have hoo:(!(ZgP A==ZgP A))=false:=by simp
 cases g:decide (((ZgP A).length:Int)>8192)with
 |true=>
  have ep:ZcE A=([],2):=by rw[ZcE,g];rfl
  rw[ep]
  refine Zae ?_
  iterate 3 refine Zaa ?_
  refine Zad ?_
  refine brT g ?_
  refine Zae ?_
  iterate 3 refine Zaa ?_
  refine Zac rfl ?_
  refine Zac rfl ?_
  refine Zap rfl ?_
  refine Zad ?_
  refine And.intro (fun h=>absurd (show false=true from h) Bool.false_ne_true) (fun _=> ?_)
  refine Zae ?_
  refine Zag rfl (fun _=>rfl) rfl rfl rfl ?_
  refine Zaf rfl ((hNb).mono ?_)
  rintro _ rfl
  refine Zab rfl rfl ?_
  refine Zaa ?_
  refine Zad ?_
  refine Zae ?_
  iterate 2 refine Zaa ?_
  refine Zad ?_
  refine brF g2 ?_
  refine Zae ?_
  refine Zag rfl (fun _=>rfl) rfl rfl rfl ?_
  refine Zaf rfl ((hLb).mono ?_)
  rintro _ rfl
  refine Zab rfl rfl ?_
  refine Zaa ?_
  refine Zad ?_
  refine Zae ?_
  refine Zaa ?_
  refine Zad ?_
  refine Zae ?_
  iterate 3 refine Zaa ?_
  refine Zad ?_
  refine(l2.ent ?_).through ?_
  ·refine Ent.trans (tm1:=[(7, .v (.l .s) (ZfC A B)),(8, .v (.i .i64) (0:Int)),(10, .v (.l .s) A),(14, .v (.l .s) B),(15, .nils),(101, .v (.l .s) A),(102,nt A.length),(103,nt 0)]) (hp1:=[]) (Zbc ⟨rfl,rfl,rfl,rfl,rfl,rfl,rfl,rfl,rfl,rfl,rfl,rfl,rfl,rfl,rfl,rfl,trivial⟩) ?_
   refine Zer (k:=15) (Nat.zero_le _) rfl (fun a V ha h=> ?_) rfl
   have hb:Nat.beq a 15=false:=by
    cases hb:Nat.beq a 15 with
    |true=>exact absurd (Nat.eq_of_beq_eq_true hb) ha
    |false=>rfl
   simp only[zld,Zck,hb]at h⊢
   exact h
  rintro _ tm hp' ⟨rfl,hE⟩
  refine⟨_,_,hE, ?_⟩
  show wp _ _ _ _ _ _ _ _ _
  refine Zae ?_
  iterate 3 refine Zaa ?_
  refine Zad ?_
  refine(l3.ent ?_).through ?_
  ·exact Zah ⟨rfl,rfl,rfl,rfl,rfl,rfl,rfl,trivial⟩
  rintro _ tm hp' ⟨rfl,hE⟩
  refine⟨_,_,hE, ?_⟩
  show wp _ _ _ _ _ _ _ _ _
  refine Zae ?_
  iterate 3 refine Zaa ?_
  refine Zac rfl ?_
  refine Zac rfl ?_
  refine Zan rfl rfl rfl rfl (And.intro (Nat.le_of_eq (Nat.zero_add _)) (hQ.mono ?_))
  rintro _ rfl
  refine Zab rfl rfl ?_
  refine Zas rfl ?_
  refine Zaa ?_
  refine Zad ?_
  exact congrArg (fun x=>SV.v .b x) (decide_eq_true rfl)
 |false=>
  have ep:ZcE A=(ZgP A,0):=by rw[ZcE,g];rfl
  rw[ep]
  refine Zae ?_
  iterate 3 refine Zaa ?_
  refine Zad ?_
  refine brF g ?_
  refine Zae ?_
  iterate 3 refine Zaa ?_
  refine Zac rfl ?_
  refine Zac rfl ?_
  refine Zac rfl ?_
  refine Zap rfl ?_
  refine Zad ?_
  refine And.intro (fun h=>by first|exact(nf h hoo).elim|exact absurd (show false=true from h) Bool.false_ne_true) (fun _=> ?_)
  refine Zae ?_
  refine Zag rfl (fun _=>rfl) rfl rfl rfl ?_
  refine Zaf rfl ((hNb).mono ?_)
  rintro _ rfl
  refine Zab rfl rfl ?_
  refine Zaa ?_
  refine Zad ?_
  refine Zae ?_
  iterate 2 refine Zaa ?_
  refine Zad ?_
  refine brF g2 ?_
  refine Zae ?_
  refine Zag rfl (fun _=>rfl) rfl rfl rfl ?_
  refine Zaf rfl ((hLb).mono ?_)
  rintro _ rfl
  refine Zab rfl rfl ?_
  refine Zaa ?_
  refine Zad ?_
  refine Zae ?_
  refine Zaa ?_
  refine Zad ?_
  refine Zae ?_
  iterate 3 refine Zaa ?_
  refine Zad ?_
  refine(l2.ent ?_).through ?_
  ·refine Ent.trans (tm1:=[(7, .v (.l .s) (ZfC A B)),(8, .v (.i .i64) (0:Int)),(10, .v (.l .s) A),(14, .v (.l .s) B),(15, .nils),(101, .v (.l .s) A),(102,nt A.length),(103,nt 0)]) (hp1:=[]) (Zbc ⟨rfl,rfl,rfl,rfl,rfl,rfl,rfl,rfl,rfl,rfl,rfl,rfl,rfl,rfl,rfl,rfl,trivial⟩) ?_
   refine Zer (k:=15) (Nat.zero_le _) rfl (fun a V ha h=> ?_) rfl
   have hb:Nat.beq a 15=false:=by
    cases hb:Nat.beq a 15 with
    |true=>exact absurd (Nat.eq_of_beq_eq_true hb) ha
    |false=>rfl
   simp only[zld,Zck,hb]at h⊢
   exact h
  rintro _ tm hp' ⟨rfl,hE⟩
  refine⟨_,_,hE, ?_⟩
  show wp _ _ _ _ _ _ _ _ _
  refine Zae ?_
  iterate 3 refine Zaa ?_
  refine Zad ?_
  refine(l3.ent ?_).through ?_
  ·exact Zah ⟨rfl,rfl,rfl,rfl,rfl,rfl,rfl,trivial⟩
  rintro _ tm hp' ⟨rfl,hE⟩
  refine⟨_,_,hE, ?_⟩
  show wp _ _ _ _ _ _ _ _ _
  refine Zae ?_
  iterate 3 refine Zaa ?_
  refine Zac rfl ?_
  refine Zac rfl ?_
  refine Zan rfl rfl rfl rfl (And.intro (Nat.le_of_eq (Nat.zero_add _)) (hQ.mono ?_))
  rintro _ rfl
  refine Zab rfl rfl ?_
  refine Zas rfl ?_
  refine Zaa ?_
  refine Zad ?_
  exact congrArg (fun x=>SV.v .b x) (decide_eq_true rfl)
theorem ZhQ (a b:Ne.Net) (ha:Zbj a) (hb:Zbj b):PureOK Tryd.prog Zax 3 [.agg (ZbB a), .agg (ZbB b)] (fun V=>V= .v .b true):=by
 cases h:(!decide (ZbV a=0))with
 |true=>exact Zsd a b ha hb h
 |false=>cases g:(!decide (ZbV b=0))with
  |true=>exact Zp6 a b ha hb h g
  |false=>exact Zqk a b ha hb h g
end Go.Proofs.YtbdkglokkepmfaaDoor
