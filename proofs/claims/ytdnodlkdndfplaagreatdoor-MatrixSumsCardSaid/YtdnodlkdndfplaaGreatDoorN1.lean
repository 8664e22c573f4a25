/-
 Loops of the law MatrixSums.
-/
import Derived.Test.YtdnodlkdndfplaaGreatDoorMV
set_option linter.constructorNameAsVariable false
set_option linter.unusedSimpArgs false
set_option linter.unusedVariables false
namespace Go.Proofs.YtdnodlkdndfplaaGreatDoor
open Go.Am Go.Tx Dv Go.Lib
set_option maxRecDepth 100000
def cxS:Cx:=⟨3,0,256⟩
theorem Zur {n i:Nat} (hi:i<n):(idP n n)[i]? =some (Zc8 n i):=by
 rw[idP,List.getElem?_map,List.getElem?_range hi,Option.map_some,if_pos hi]
theorem Zqw (n i:Nat):(Zc8 n i).length=n:=by rw[Zc8,List.length_set,List.length_replicate]
theorem Zsg {n i k:Nat} (hk:k<n): ∃q,(Zc8 n i)[k]? =some q∧((q=[49]∧i=k)∨(q=[48]∧i≠k)):=by
 by_cases e:i=k
 ·subst e
  exact⟨[49],by rw[Zc8,List.getElem?_set_self (by rw[List.length_replicate];exact hk)], .inl ⟨rfl,rfl⟩⟩
 ·exact⟨[48],by rw[Zc8,List.getElem?_set_ne e,List.getElem?_replicate,if_pos hk], .inr ⟨rfl,e⟩⟩
def c12 (n:Nat) (A B R S C:SV) (e f:Int) (i:Nat):TM:=[(0,A),(1,B),(2,R),(3, .v (.i .i64) (n:Int)),(9,S),(10, .v (.i .i64) e),(11,C),(12, .v (.i .i64) f),(65, .v (.l (.l .s)) (idP n n)),(66, .v (.i .i64) ((idP n n).length:Int)),(67, .v (.i .i64) (i:Int))]
set_option maxHeartbeats 16000000 in
theorem Zwt (n:Nat) (A B R S C:SV) (e f:Int) (hn:n≤40):
 LoopOK Tryz.prog Zat 0 cxS (Zc5 Tryz.f3 12) (c12 n A B R S C e f 0) []
 (fun x tm hp=>x= .exit 0∧ ∃Z:SV,tm=(68,Z)::c12 n A B R S C e f n∧hp=[]):=by
 have hll:(idP n n).length=n:=ZeB n n
 refine Zaw Zal rfl (c12 n A B R S C e f) (fun _=> []) (fun k=>k≤n) (fun k=>n-k) ?_ 0 (Nat.zero_le _) ZbC
 intro i hi
 refine And.intro (fun h=> ?_) (fun h=> ?_)
 ·have hlt:i<n:=by have h':(i:Int)<(((idP n n).length:Nat):Int):=of_decide_eq_true h;omega
  have gx:(idP n n)[(i:Int).toNat]? =some (Zc8 n i):=by rw[Int.toNat_natCast];exact Zur hlt
  have wi:IntKind.i64.wrap ((i:Int)+1)=((i+1:Nat):Int):=Zan (by omega) (by omega)
  have hrl:=Zqw n i
  refine⟨_,Int.natCast_nonneg i,gx, ?_⟩
  refine Zaw Zal rfl (fun(k:Nat)=>(72, .v (.l .s) (Zc8 n i))::(73, .v (.i .i64) ((Zc8 n i).length:Int))::(74, .v (.i .i64) (k:Int))::(15, .v (.i .i64) (i:Int))::(16, .v (.l .s) (Zc8 n i))::c12 n A B R S C e f i) (fun _=> []) (fun k=>k≤n) (fun k=>n-k) ?_ 0 (Nat.zero_le _) ?_
  ·intro k hk
   refine And.intro (fun h=> ?_) (fun h=> ?_)
   ·have hlk:k<n:=by have h':(k:Int)<(((Zc8 n i).length:Nat):Int):=of_decide_eq_true h;omega
    obtain⟨q,hq,hcase⟩:=Zsg (n:=n) (i:=i) hlk
    have gk:(Zc8 n i)[(k:Int).toNat]? =some q:=by rw[Int.toNat_natCast];exact hq
    have wk:IntKind.i64.wrap ((k:Int)+1)=((k+1:Nat):Int):=Zan (by omega) (by omega)
    have h3:(!decide (((Zc8 n i).length:Int)=(n:Int)))=false:=by rw[hrl,decide_eq_true rfl];rfl
    refine⟨_,Int.natCast_nonneg k,gk, ?_⟩
    rcases hcase with⟨e1,e2⟩|⟨e1,e2⟩
    ·have h10:(!((q==[49])==decide ((i:Int)=(k:Int))))=false:=by rw[e1,e2,decide_eq_true rfl];rfl
     have h14:(!(q==[49]))=false:=by rw[e1];rfl
     repeat (first|refine Zaj ?_|refine Zaf ?_|refine Zac ?_)
     first|refine Zab (Zaa (id:=17) rfl ?_)|refine Zab (Zab (Zaa (id:=17) rfl ?_))|refine Zaa (id:=17) rfl ?_|refine Zab (Zad rfl (Zab (Zaa (id:=17) rfl ?_)))|refine Zad rfl (Zab (Zaa (id:=17) rfl ?_))
     refine Zah rfl (fun _=>rfl) rfl rfl ?_
     refine Zah rfl (fun _=>rfl) rfl rfl ?_
     refine Zah rfl (fun _=>rfl) rfl rfl ?_
     refine Zah rfl (fun _=>rfl) rfl rfl ?_
     refine Zah rfl (fun _=>rfl) rfl rfl ?_
     refine Zae rfl rfl rfl h3 (fun _=>rfl) rfl rfl ?_
     refine Zae rfl rfl rfl h3 (fun _=>rfl) rfl rfl ?_
     refine Zae rfl rfl rfl h3 (fun _=>rfl) rfl rfl ?_
     refine Zae rfl rfl rfl h3 (fun _=>rfl) rfl rfl ?_
     refine Zae rfl rfl rfl h3 (fun _=>rfl) rfl rfl ?_
     refine Zae rfl rfl rfl h3 (fun _=>rfl) rfl rfl ?_
     refine Zax rfl rfl rfl h3 rfl rfl rfl ?_
     refine Zah rfl (fun _=>rfl) rfl rfl ?_
     refine Zae rfl rfl rfl h10 (fun _=>rfl) rfl rfl ?_
     refine Zae rfl rfl rfl h10 (fun _=>rfl) rfl rfl ?_
     refine Zae rfl rfl rfl h10 (fun _=>rfl) rfl rfl ?_
     refine Zag rfl rfl rfl h14 rfl rfl ?_
     refine Zag rfl rfl rfl h14 rfl rfl ?_
     refine ZaZ rfl rfl rfl h10 rfl rfl h14 rfl rfl rfl ?_
     refine Zax rfl rfl rfl h10 rfl rfl rfl ?_
     refine Zam ?_
     repeat (first|refine Zaf ?_|refine Zac ?_)
     refine And.intro (fun h=>by first|(cases h;done)|exact(nf h h10).elim) (fun _=> ?_)
     refine⟨k+1,hlk,by show n-(k+1)<n-k;omega, ?_⟩
     exact Zbu ⟨rfl,rfl,congrArg (fun x=>some (SV.v (.i .i64) x)) wk,rfl,rfl,rfl,rfl,rfl,rfl,rfl,rfl,rfl,rfl,rfl,rfl,rfl,trivial⟩
    ·have h10:(!((q==[49])==decide ((i:Int)=(k:Int))))=false:=by rw[e1,decide_eq_false (by omega)];rfl
     have h14:(!(q==[49]))=true:=by rw[e1];rfl
     have h17:(!(q==[48]))=false:=by rw[e1];rfl
     repeat (first|refine Zaj ?_|refine Zaf ?_|refine Zac ?_)
     first|refine Zab (Zaa (id:=17) rfl ?_)|refine Zab (Zab (Zaa (id:=17) rfl ?_))|refine Zaa (id:=17) rfl ?_|refine Zab (Zad rfl (Zab (Zaa (id:=17) rfl ?_)))|refine Zad rfl (Zab (Zaa (id:=17) rfl ?_))
     refine Zah rfl (fun _=>rfl) rfl rfl ?_
     refine Zah rfl (fun _=>rfl) rfl rfl ?_
     refine Zah rfl (fun _=>rfl) rfl rfl ?_
     refine Zah rfl (fun _=>rfl) rfl rfl ?_
     refine Zah rfl (fun _=>rfl) rfl rfl ?_
     refine Zae rfl rfl rfl h3 (fun _=>rfl) rfl rfl ?_
     refine Zae rfl rfl rfl h3 (fun _=>rfl) rfl rfl ?_
     refine Zae rfl rfl rfl h3 (fun _=>rfl) rfl rfl ?_
     refine Zae rfl rfl rfl h3 (fun _=>rfl) rfl rfl ?_
     refine Zae rfl rfl rfl h3 (fun _=>rfl) rfl rfl ?_
     refine Zae rfl rfl rfl h3 (fun _=>rfl) rfl rfl ?_
     refine Zax rfl rfl rfl h3 rfl rfl rfl ?_
     refine Zah rfl (fun _=>rfl) rfl rfl ?_
     refine Zae rfl rfl rfl h10 (fun _=>rfl) rfl rfl ?_
     refine Zae rfl rfl rfl h10 (fun _=>rfl) rfl rfl ?_
     refine Zae rfl rfl rfl h10 (fun _=>rfl) rfl rfl ?_
     refine Zae rfl rfl rfl h14 (fun _=>rfl) rfl rfl ?_
     refine Zae rfl rfl rfl h14 (fun _=>rfl) rfl rfl ?_
     refine ZbS rfl rfl rfl h10 rfl rfl h14 rfl rfl rfl ?_
     refine Zax rfl rfl rfl h10 rfl rfl rfl ?_
     refine Zam ?_
     repeat (first|refine Zaf ?_|refine Zac ?_)
     refine And.intro (fun h=>by first|(cases h;done)|exact(nf h h17).elim) (fun _=> ?_)
     refine⟨k+1,hlk,by show n-(k+1)<n-k;omega, ?_⟩
     exact Zbu ⟨rfl,rfl,congrArg (fun x=>some (SV.v (.i .i64) x)) wk,rfl,rfl,rfl,rfl,rfl,rfl,rfl,rfl,rfl,rfl,rfl,rfl,rfl,trivial⟩
   ·refine⟨i+1,hlt,by show n-(i+1)<n-i;omega, ?_⟩
    exact Zbu ⟨rfl,rfl,rfl,rfl,rfl,rfl,rfl,rfl,rfl,rfl,congrArg (fun x=>some (SV.v (.i .i64) x)) wi,trivial⟩
  ·exact Zbu ⟨rfl,rfl,rfl,rfl,rfl,rfl,rfl,rfl,rfl,rfl,rfl,rfl,rfl,rfl,rfl,rfl,trivial⟩
 ·have hk2:i=n:=by have h': ¬ (i:Int)<(((idP n n).length:Nat):Int):=of_decide_eq_false h;omega
  subst hk2
  exact⟨rfl,_,rfl,rfl⟩
def Zw3 (a b:List (List (List UInt8))) (S:SV) (e E:Int):Prop:=decide (E=0)=false∨(E=0∧e=0∧ ∃pss qss,a=ZeH pss∧b=ZeH qss∧SameD qss pss∧(∀ps∈pss,∀p∈ps,dz p 12)∧(∀ps∈qss,∀p∈ps,dz p 12)∧S= .v (.l (.l .s)) (ZeH (Zeb (· + ·) pss qss)))
def Zxv (a:List (List (List UInt8))) (r:List UInt8) (C:SV) (f F:Int):Prop:=decide (F=0)=false∨(F=0∧f=0∧ ∃pss q,a=ZeH pss∧r=Zbi q∧(∀ps∈pss,∀p∈ps,dz p 12)∧dz q 12∧C= .v (.l (.l .s)) (ZeH (Zeb (fun x _=>x*q) pss pss)))
theorem ZmY {g:Rat→Rat→Rat} {pss qss:List (List Rat)} (h:SameD qss pss):(Zeb g pss qss).length=pss.length:=by rw[Zeb,List.length_zipWith,h.len,Nat.min_self]
theorem Znq {g:Rat→Rat→Rat} {pss qss:List (List Rat)} {i:Nat} (h1:i<pss.length) (h2:i<qss.length):(ZeH (Zeb g pss qss))[i]? =some ((List.zipWith g pss[i] qss[i]).map Zbi):=by
 have h3:i<(Zeb g pss qss).length:=by rw[Zeb,List.length_zipWith];omega
 rw[ZlK h3]
 simp only[Zeb,List.getElem_zipWith]
theorem ZtP {g:Rat→Rat→Rat} {ps qs:List Rat} {k:Nat} (h1:k<ps.length) (h2:k<qs.length):((List.zipWith g ps qs).map Zbi)[k]? =some (Zbi (g ps[k] qs[k])):=by
 rw[List.getElem?_map,List.getElem?_eq_getElem (by rw[List.length_zipWith];omega),List.getElem_zipWith];rfl
theorem Zwr {ps:List Rat} {k:Nat} (h:k<ps.length):(ps.map Zbi)[k]? =some (Zbi ps[k]):=by rw[List.getElem?_map,List.getElem?_eq_getElem h];rfl
def c30 (a b:List (List (List UInt8))) (r:List UInt8) (S C:SV) (e f E F:Int) (i:Nat):TM:=[(0, .v (.l (.l .s)) a),(1, .v (.l (.l .s)) b),(2, .v .s r),(9,S),(10, .v (.i .i64) e),(11,C),(12, .v (.i .i64) f),(19, .v (.i .i64) E),(20, .v (.i .i64) F),(162, .v (.l (.l .s)) a),(163, .v (.i .i64) (a.length:Int)),(164, .v (.i .i64) (i:Int))]
set_option maxHeartbeats 32000000 in
theorem Zv3 (a b:List (List (List UInt8))) (r:List UInt8) (S C:SV) (e f E F:Int) (hal:a.length≤6) (har: ∀x∈a,x.length≤6) (hs:Zw3 a b S e E) (hc:Zxv a r C f F):
 LoopOK Tryz.prog Zat 0 cxS (Zc5 Tryz.f3 30) (c30 a b r S C e f E F 0) []
 (fun x tm hp=>x= .exit 4∧ ∃Z:SV,tm=(165,Z)::c30 a b r S C e f E F a.length∧hp=[]):=by
 refine Zaw Zal rfl (c30 a b r S C e f E F) (fun _=> []) (fun k=>k≤a.length) (fun k=>a.length-k) ?_ 0 (Nat.zero_le _) ZbC
 intro i hi
 refine And.intro (fun h=> ?_) (fun h=> ?_)
 ·have hlt:i<a.length:=by have h':(i:Int)<(a.length:Int):=of_decide_eq_true h;omega
  have gx:a[(i:Int).toNat]? =some a[i]:=by rw[Int.toNat_natCast];exact List.getElem?_eq_getElem hlt
  have wi:IntKind.i64.wrap ((i:Int)+1)=((i+1:Nat):Int):=Zan (by omega) (by omega)
  have hrl:=har a[i] (List.getElem_mem hlt)
  obtain⟨row,erow⟩: ∃x,a[i]=x:=⟨_,rfl⟩
  rw[erow]at gx hrl
  refine⟨row,Int.natCast_nonneg i,gx, ?_⟩
  refine Zaw Zal rfl (fun(k:Nat)=>(169, .v (.l .s) row)::(170, .v (.i .i64) (row.length:Int))::(171, .v (.i .i64) (k:Int))::(21, .v (.i .i64) (i:Int))::(22, .v (.l .s) row)::c30 a b r S C e f E F i) (fun _=> []) (fun k=>k≤row.length) (fun k=>row.length-k) ?_ 0 (Nat.zero_le _) ?_
  ·intro k hk
   refine And.intro (fun h=> ?_) (fun h=> ?_)
   ·have hlk:k<row.length:=by have h':(k:Int)<(row.length:Int):=of_decide_eq_true h;omega
    have gk:row[(k:Int).toNat]? =some row[k]:=by rw[Int.toNat_natCast];exact List.getElem?_eq_getElem hlk
    have wk:IntKind.i64.wrap ((k:Int)+1)=((k+1:Nat):Int):=Zan (by omega) (by omega)
    obtain⟨q,eq⟩: ∃x,row[k]=x:=⟨_,rfl⟩
    rw[eq]at gk
    refine⟨q,Int.natCast_nonneg k,gk, ?_⟩
    have hsc:decide (F=0)=false∨ ∃ (t:List (List (List UInt8))) (tr:List (List UInt8)) (x:List UInt8),decide (F=0)=true∧(!decide (f=0))=false∧C= .v (.l (.l .s)) t∧(!decide ((t.length:Int)=(a.length:Int)))=false∧t[(i:Int).toNat]? =some tr∧(!decide ((tr.length:Int)=(row.length:Int)))=false∧tr[(k:Int).toNat]? =some x∧PureOK Tryz.prog Zat 19 [.v .s q, .v .s r] (fun V=>V= .v .s x):=by
     rcases hc with hc|⟨rfl,rfl,pss,y,rfl,rfl,d1,d2,rfl⟩
     ·exact .inl hc
     ·have hl1:i<pss.length:=by rw[ZeH,List.length_map]at hlt;exact hlt
      have er:row=pss[i].map Zbi:=by rw[←erow];simp only[ZeH,List.getElem_map]
      have hl2:k<pss[i].length:=by rw[er,List.length_map]at hlk;exact hlk
      have eq2:q=Zbi pss[i][k]:=by rw[←eq];simp only[er,List.getElem_map]
      refine .inr ⟨_,_,_,decide_eq_true rfl,by rw[decide_eq_true rfl];rfl,rfl, ?_,by rw[Int.toNat_natCast];exact Znq hl1 hl1, ?_,by rw[Int.toNat_natCast];exact ZtP hl2 hl2, ?_⟩
      ·rw[ZeH,List.length_map,ZmY (SameD.refl pss),ZeH,List.length_map,decide_eq_true rfl];rfl
      ·rw[er,List.length_map,List.length_map,List.length_zipWith,Nat.min_self,decide_eq_true rfl];rfl
      ·rw[eq2]
       exact ZsF pss[i][k] y (k:=12) (by decide) (d1 _ (List.getElem_mem hl1) _ (List.getElem_mem hl2)) d2
    have hss:decide (E=0)=false∨ ∃ (t:List (List (List UInt8))) (tr br:List (List UInt8)) (x y:List UInt8),decide (E=0)=true∧(!decide (e=0))=false∧S= .v (.l (.l .s)) t∧(!decide ((t.length:Int)=(a.length:Int)))=false∧t[(i:Int).toNat]? =some tr∧(!decide ((tr.length:Int)=(row.length:Int)))=false∧tr[(k:Int).toNat]? =some x∧b[(i:Int).toNat]? =some br∧br[(k:Int).toNat]? =some y∧PureOK Tryz.prog Zat 18 [.v .s q, .v .s y] (fun V=>V= .v .s x):=by
     rcases hs with hs|⟨rfl,rfl,pss,qss,rfl,rfl,hD,d1,d2,rfl⟩
     ·exact .inl hs
     ·have hl1:i<pss.length:=by rw[ZeH,List.length_map]at hlt;exact hlt
      have hl3:i<qss.length:=by rw[hD.len];exact hl1
      have er:row=pss[i].map Zbi:=by rw[←erow];simp only[ZeH,List.getElem_map]
      have hl2:k<pss[i].length:=by rw[er,List.length_map]at hlk;exact hlk
      have hl4:k<qss[i].length:=by rw[hD.row i hl3 hl1];exact hl2
      have eq2:q=Zbi pss[i][k]:=by rw[←eq];simp only[er,List.getElem_map]
      refine .inr ⟨_,_,_,_,_,decide_eq_true rfl,by rw[decide_eq_true rfl];rfl,rfl, ?_,by rw[Int.toNat_natCast];exact Znq hl1 hl3, ?_,by rw[Int.toNat_natCast];exact ZtP hl2 hl4,by rw[Int.toNat_natCast];exact ZlK hl3,by rw[Int.toNat_natCast];exact Zwr hl4, ?_⟩
      ·rw[ZeH,List.length_map,ZmY hD,ZeH,List.length_map,decide_eq_true rfl];rfl
      ·rw[er,List.length_map,List.length_map,List.length_zipWith,hD.row i hl3 hl1,Nat.min_self,decide_eq_true rfl];rfl
      ·rw[eq2]
       exact ZsJ pss[i][k] qss[i][k] (k:=12) (by decide) (d1 _ (List.getElem_mem hl1) _ (List.getElem_mem hl2)) (d2 _ (List.getElem_mem hl3) _ (List.getElem_mem hl4))
    rcases hss with hE|⟨t,tr,br,x,y,hE,he,rfl,h10,h15,h20,h28,h33,h36,hA⟩
    repeat (first|refine Zaj ?_|refine Zaf ?_|refine Zac ?_)
    first|refine Zab (Zaa (id:=35) rfl ?_)|refine Zab (Zab (Zaa (id:=35) rfl ?_))|refine Zaa (id:=35) rfl ?_|refine Zab (Zad rfl (Zab (Zaa (id:=35) rfl ?_)))|refine Zad rfl (Zab (Zaa (id:=35) rfl ?_))
    refine Zah rfl (fun _=>rfl) rfl rfl ?_
    refine Zah rfl (fun _=>rfl) rfl rfl ?_
    refine Zah rfl (fun _=>rfl) rfl rfl ?_
    refine Zag rfl rfl rfl hE rfl rfl ?_
    refine Zag rfl rfl rfl hE rfl rfl ?_
    refine Zag rfl rfl rfl hE rfl rfl ?_
    refine Zai rfl rfl rfl rfl rfl ?_
    refine Zai rfl rfl rfl rfl rfl ?_
    refine Zai rfl rfl rfl rfl rfl ?_
    refine Zai rfl rfl rfl rfl rfl ?_
    refine Zai rfl rfl rfl rfl rfl ?_
    refine Zag rfl rfl rfl hE rfl rfl ?_
    refine Zag rfl rfl rfl hE rfl rfl ?_
    refine Zai rfl rfl rfl rfl rfl ?_
    refine Zai rfl rfl rfl rfl rfl ?_
    refine Zai rfl rfl rfl rfl rfl ?_
    refine Zai rfl rfl rfl rfl rfl ?_
    refine Zai rfl rfl rfl rfl rfl ?_
    refine Zai rfl rfl rfl rfl rfl ?_
    refine Zai rfl rfl rfl rfl rfl ?_
    refine Zai rfl rfl rfl rfl rfl ?_
    refine Zag rfl rfl rfl hE rfl rfl ?_
    refine Zag rfl rfl rfl hE rfl rfl ?_
    refine Zai rfl rfl rfl rfl rfl ?_
    refine Zai rfl rfl rfl rfl rfl ?_
    refine Zai rfl rfl rfl rfl rfl ?_
    refine Zai rfl rfl rfl rfl rfl ?_
    refine Zai rfl rfl rfl rfl rfl ?_
    refine Zai rfl rfl rfl rfl rfl ?_
    refine Zai rfl rfl rfl rfl rfl ?_
    refine Zai rfl rfl rfl rfl rfl ?_
    refine Zai rfl rfl rfl rfl rfl ?_
    refine Zai rfl rfl rfl rfl rfl ?_
    refine Zai rfl rfl rfl rfl rfl ?_
    refine Zai rfl rfl rfl rfl rfl ?_
    refine Zai rfl rfl rfl rfl rfl ?_
    refine Zai rfl rfl rfl rfl rfl ?_
    refine Zai rfl rfl rfl rfl rfl ?_
    refine Zai rfl rfl rfl rfl rfl ?_
    refine Zai rfl rfl rfl rfl rfl ?_
    refine Zag rfl rfl rfl hE rfl rfl ?_
    refine Zax rfl rfl rfl hE rfl rfl rfl ?_
    refine Zam ?_
    repeat (first|refine Zaf ?_|refine Zac ?_)
    refine And.intro (fun h=>by first|(cases h;done)|exact(nf h hE).elim) (fun _=> ?_)
    rotate_left 1
    have hxx:(!(x==x))=false:=by rw[Zoy];rfl
    repeat (first|refine Zaj ?_|refine Zaf ?_|refine Zac ?_)
    first|refine Zab (Zaa (id:=35) rfl ?_)|refine Zab (Zab (Zaa (id:=35) rfl ?_))|refine Zaa (id:=35) rfl ?_|refine Zab (Zad rfl (Zab (Zaa (id:=35) rfl ?_)))|refine Zad rfl (Zab (Zaa (id:=35) rfl ?_))
    refine Zah rfl (fun _=>rfl) rfl rfl ?_
    refine Zah rfl (fun _=>rfl) rfl rfl ?_
    refine Zah rfl (fun _=>rfl) rfl rfl ?_
    refine Zae rfl rfl rfl hE (fun _=>rfl) rfl rfl ?_
    refine Zae rfl rfl rfl hE (fun _=>rfl) rfl rfl ?_
    refine Zae rfl rfl rfl hE (fun _=>rfl) rfl rfl ?_
    refine Zae rfl rfl rfl he (fun _=>rfl) rfl rfl ?_
    refine Zae rfl rfl rfl he (fun _=>rfl) rfl rfl ?_
    refine Zae rfl rfl rfl he (fun _=>rfl) rfl rfl ?_
    refine Zae rfl rfl rfl he (fun _=>rfl) rfl rfl ?_
    refine Zae rfl rfl rfl he (fun _=>rfl) rfl rfl ?_
    refine ZaZ rfl rfl rfl hE rfl rfl he rfl rfl rfl ?_
    refine Zae rfl rfl rfl hE (fun _=>rfl) rfl rfl ?_
    refine Zae rfl rfl rfl h10 (fun _=>rfl) rfl rfl ?_
    refine Zae rfl rfl rfl h10 (fun _=>rfl) rfl rfl ?_
    refine Zcu rfl rfl rfl h10 (fun _=>rfl) (Int.natCast_nonneg i) h15 rfl rfl ?_
    refine Zae rfl rfl rfl h10 (fun _=>rfl) rfl rfl ?_
    refine Zae rfl rfl rfl h10 (fun _=>rfl) rfl rfl ?_
    refine Zae rfl rfl rfl h10 (fun _=>rfl) rfl rfl ?_
    refine Zae rfl rfl rfl h10 (fun _=>rfl) rfl rfl ?_
    refine Zae rfl rfl rfl h10 (fun _=>rfl) rfl rfl ?_
    refine ZaZ rfl rfl rfl hE rfl rfl h10 rfl rfl rfl ?_
    refine Zae rfl rfl rfl hE (fun _=>rfl) rfl rfl ?_
    refine Zae rfl rfl rfl h20 (fun _=>rfl) rfl rfl ?_
    refine Zae rfl rfl rfl h20 (fun _=>rfl) rfl rfl ?_
    refine Zcu rfl rfl rfl h20 (fun _=>rfl) (Int.natCast_nonneg i) h15 rfl rfl ?_
    refine Zae rfl rfl rfl h20 (fun _=>rfl) rfl rfl ?_
    refine Zae rfl rfl rfl h20 (fun _=>rfl) rfl rfl ?_
    refine Zcu rfl rfl rfl h20 (fun _=>rfl) (Int.natCast_nonneg k) h28 rfl rfl ?_
    refine Zae rfl rfl rfl h20 (fun _=>rfl) rfl rfl ?_
    refine Zae rfl rfl rfl h20 (fun _=>rfl) rfl rfl ?_
    refine Zae rfl rfl rfl h20 (fun _=>rfl) rfl rfl ?_
    refine Zae rfl rfl rfl h20 (fun _=>rfl) rfl rfl ?_
    refine Zcu rfl rfl rfl h20 (fun _=>rfl) (Int.natCast_nonneg i) h33 rfl rfl ?_
    refine Zae rfl rfl rfl h20 (fun _=>rfl) rfl rfl ?_
    refine Zae rfl rfl rfl h20 (fun _=>rfl) rfl rfl ?_
    refine Zcu rfl rfl rfl h20 (fun _=>rfl) (Int.natCast_nonneg k) h36 rfl rfl ?_
    refine Zae rfl rfl rfl h20 (fun _=>rfl) rfl rfl ?_
    refine Za9 rfl rfl rfl h20 ((hA).mono ?_)
    rintro _ rfl
    refine ZaE rfl rfl ?_
    refine Zae rfl rfl rfl h20 (fun _=>rfl) rfl rfl ?_
    refine ZaZ rfl rfl rfl hE rfl rfl h20 rfl rfl rfl ?_
    refine ZaG rfl rfl rfl hE rfl rfl rfl ?_
    refine Zam ?_
    repeat (first|refine Zaf ?_|refine Zac ?_)
    refine And.intro (fun h=>by first|(cases h;done)|exact(nf h hxx).elim) (fun _=> ?_)
    rotate_left 1
    all_goals
     rcases hsc with hF|⟨t,tr,x,hF,hf,rfl,h10,h15,h20,h28,hA⟩
     repeat (first|refine Zaj ?_|refine Zaf ?_|refine Zac ?_)
     first|refine Zab (Zaa (id:=37) rfl ?_)|refine Zab (Zab (Zaa (id:=37) rfl ?_))|refine Zaa (id:=37) rfl ?_|refine Zab (Zad rfl (Zab (Zaa (id:=37) rfl ?_)))|refine Zad rfl (Zab (Zaa (id:=37) rfl ?_))
     refine Zah rfl (fun _=>rfl) rfl rfl ?_
     refine Zah rfl (fun _=>rfl) rfl rfl ?_
     refine Zah rfl (fun _=>rfl) rfl rfl ?_
     refine Zag rfl rfl rfl hF rfl rfl ?_
     refine Zag rfl rfl rfl hF rfl rfl ?_
     refine Zag rfl rfl rfl hF rfl rfl ?_
     refine Zai rfl rfl rfl rfl rfl ?_
     refine Zai rfl rfl rfl rfl rfl ?_
     refine Zai rfl rfl rfl rfl rfl ?_
     refine Zai rfl rfl rfl rfl rfl ?_
     refine Zai rfl rfl rfl rfl rfl ?_
     refine Zag rfl rfl rfl hF rfl rfl ?_
     refine Zag rfl rfl rfl hF rfl rfl ?_
     refine Zai rfl rfl rfl rfl rfl ?_
     refine Zai rfl rfl rfl rfl rfl ?_
     refine Zai rfl rfl rfl rfl rfl ?_
     refine Zai rfl rfl rfl rfl rfl ?_
     refine Zai rfl rfl rfl rfl rfl ?_
     refine Zai rfl rfl rfl rfl rfl ?_
     refine Zai rfl rfl rfl rfl rfl ?_
     refine Zai rfl rfl rfl rfl rfl ?_
     refine Zag rfl rfl rfl hF rfl rfl ?_
     refine Zag rfl rfl rfl hF rfl rfl ?_
     refine Zai rfl rfl rfl rfl rfl ?_
     refine Zai rfl rfl rfl rfl rfl ?_
     refine Zai rfl rfl rfl rfl rfl ?_
     refine Zai rfl rfl rfl rfl rfl ?_
     refine Zai rfl rfl rfl rfl rfl ?_
     refine Zai rfl rfl rfl rfl rfl ?_
     refine Zai rfl rfl rfl rfl rfl ?_
     refine Zai rfl rfl rfl rfl rfl ?_
     refine Zai rfl rfl rfl rfl rfl ?_
     refine Zai rfl rfl rfl rfl rfl ?_
     refine Zai rfl rfl rfl rfl rfl ?_
     refine Zag rfl rfl rfl hF rfl rfl ?_
     refine Zax rfl rfl rfl hF rfl rfl rfl ?_
     refine Zam ?_
     repeat (first|refine Zaf ?_|refine Zac ?_)
     refine And.intro (fun h=>by first|(cases h;done)|exact(nf h hF).elim) (fun _=> ?_)
     rotate_left 1
     have hxx:(!(x==x))=false:=by rw[Zoy];rfl
     repeat (first|refine Zaj ?_|refine Zaf ?_|refine Zac ?_)
     first|refine Zab (Zaa (id:=37) rfl ?_)|refine Zab (Zab (Zaa (id:=37) rfl ?_))|refine Zaa (id:=37) rfl ?_|refine Zab (Zad rfl (Zab (Zaa (id:=37) rfl ?_)))|refine Zad rfl (Zab (Zaa (id:=37) rfl ?_))
     refine Zah rfl (fun _=>rfl) rfl rfl ?_
     refine Zah rfl (fun _=>rfl) rfl rfl ?_
     refine Zah rfl (fun _=>rfl) rfl rfl ?_
     refine Zae rfl rfl rfl hF (fun _=>rfl) rfl rfl ?_
     refine Zae rfl rfl rfl hF (fun _=>rfl) rfl rfl ?_
     refine Zae rfl rfl rfl hF (fun _=>rfl) rfl rfl ?_
     refine Zae rfl rfl rfl hf (fun _=>rfl) rfl rfl ?_
     refine Zae rfl rfl rfl hf (fun _=>rfl) rfl rfl ?_
     refine Zae rfl rfl rfl hf (fun _=>rfl) rfl rfl ?_
     refine Zae rfl rfl rfl hf (fun _=>rfl) rfl rfl ?_
     refine Zae rfl rfl rfl hf (fun _=>rfl) rfl rfl ?_
     refine ZaZ rfl rfl rfl hF rfl rfl hf rfl rfl rfl ?_
     refine Zae rfl rfl rfl hF (fun _=>rfl) rfl rfl ?_
     refine Zae rfl rfl rfl h10 (fun _=>rfl) rfl rfl ?_
     refine Zae rfl rfl rfl h10 (fun _=>rfl) rfl rfl ?_
     refine Zcu rfl rfl rfl h10 (fun _=>rfl) (Int.natCast_nonneg i) h15 rfl rfl ?_
     refine Zae rfl rfl rfl h10 (fun _=>rfl) rfl rfl ?_
     refine Zae rfl rfl rfl h10 (fun _=>rfl) rfl rfl ?_
     refine Zae rfl rfl rfl h10 (fun _=>rfl) rfl rfl ?_
     refine Zae rfl rfl rfl h10 (fun _=>rfl) rfl rfl ?_
     refine Zae rfl rfl rfl h10 (fun _=>rfl) rfl rfl ?_
     refine ZaZ rfl rfl rfl hF rfl rfl h10 rfl rfl rfl ?_
     refine Zae rfl rfl rfl hF (fun _=>rfl) rfl rfl ?_
     refine Zae rfl rfl rfl h20 (fun _=>rfl) rfl rfl ?_
     refine Zae rfl rfl rfl h20 (fun _=>rfl) rfl rfl ?_
     refine Zcu rfl rfl rfl h20 (fun _=>rfl) (Int.natCast_nonneg i) h15 rfl rfl ?_
     refine Zae rfl rfl rfl h20 (fun _=>rfl) rfl rfl ?_
     refine Zae rfl rfl rfl h20 (fun _=>rfl) rfl rfl ?_
     refine Zcu rfl rfl rfl h20 (fun _=>rfl) (Int.natCast_nonneg k) h28 rfl rfl ?_
     refine Zae rfl rfl rfl h20 (fun _=>rfl) rfl rfl ?_
     refine Zae rfl rfl rfl h20 (fun _=>rfl) rfl rfl ?_
     refine Zae rfl rfl rfl h20 (fun _=>rfl) rfl rfl ?_
     refine Za9 rfl rfl rfl h20 ((hA).mono ?_)
     rintro _ rfl
     refine ZaE rfl rfl ?_
     refine Zae rfl rfl rfl h20 (fun _=>rfl) rfl rfl ?_
     refine ZaZ rfl rfl rfl hF rfl rfl h20 rfl rfl rfl ?_
     refine ZaG rfl rfl rfl hF rfl rfl rfl ?_
     refine Zam ?_
     repeat (first|refine Zaf ?_|refine Zac ?_)
     refine And.intro (fun h=>by first|(cases h;done)|exact(nf h hxx).elim) (fun _=> ?_)
     rotate_left 1
    all_goals
     refine⟨k+1,hlk,by show row.length-(k+1)<row.length-k;omega, ?_⟩
     exact Zbu ⟨rfl,rfl,congrArg (fun x=>some (SV.v (.i .i64) x)) wk,rfl,rfl,rfl,rfl,rfl,rfl,rfl,rfl,rfl,rfl,rfl,rfl,rfl,rfl,trivial⟩
   ·refine⟨i+1,hlt,by show a.length-(i+1)<a.length-i;omega, ?_⟩
    exact Zbu ⟨rfl,rfl,rfl,rfl,rfl,rfl,rfl,rfl,rfl,rfl,rfl,congrArg (fun x=>some (SV.v (.i .i64) x)) wi,trivial⟩
  ·exact Zbu ⟨rfl,rfl,rfl,rfl,rfl,rfl,rfl,rfl,rfl,rfl,rfl,rfl,rfl,rfl,rfl,rfl,rfl,trivial⟩
 ·have hk2:i=a.length:=by have h': ¬ (i:Int)<(a.length:Int):=of_decide_eq_false h;omega
  subst hk2
  exact⟨rfl,_,rfl,rfl⟩
end Go.Proofs.YtdnodlkdndfplaaGreatDoor
