/-
 matrix.each: a function of two numbers, place by place.
-/
import Derived.Test.YtdnodlkdndfplaaGreatDoorM6
set_option linter.constructorNameAsVariable false
set_option linter.unusedSimpArgs false
set_option linter.unusedVariables false
namespace Go.Proofs.YtdnodlkdndfplaaGreatDoor
open Go.Am Go.Tx Dv Go.Lib
set_option maxRecDepth 100000
def Zeb (g:Rat→Rat→Rat) (pss qss:List (List Rat)):List (List Rat):=List.zipWith (fun ps qs=>List.zipWith g ps qs) pss qss
def eaP {α:Type} (R X:List (List α)) (i k:Nat):List (List α):=(List.range X.length).map fun r=>if r<i then R.getD r []else if r=i then(R.getD r []).take k++(X.getD r []).drop k else X.getD r []
structure SameD {α:Type} (R X:List (List α)):Prop where
 len:R.length=X.length
 row: ∀r (h1:r<R.length) (h2:r<X.length),R[r].length=X[r].length
theorem ZfN {α:Type} {l:List α} {i:Nat} {d:α} (h:i<l.length):l.getD i d=l[i]:=by rw[List.getD_eq_getElem?_getD,List.getElem?_eq_getElem h];rfl
section
variable {α : Type} {R X : List (List α)} {i k r : Nat}
theorem ZcU:(eaP R X i k).length=X.length:=by rw[eaP,List.length_map,List.length_range]
theorem Zho (h:r<(eaP R X i k).length):(eaP R X i k)[r]=if r<i then R.getD r []else if r=i then(R.getD r []).take k++(X.getD r []).drop k else X.getD r []:=by
 simp only[eaP,List.getElem_map,List.getElem_range]
theorem ZsO:eaP R X 0 0=X:=by
 apply List.ext_getElem
 ·exact ZcU
 ·intro r h1 h2
  rw[Zho h1,if_neg (Nat.not_lt_zero r),ZfN h2]
  split<;>simp
theorem Zsh (hS:SameD R X):eaP R X X.length 0=R:=by
 apply List.ext_getElem
 ·rw[ZcU,hS.len]
 ·intro r h1 h2
  rw[Zho h1,if_pos (by rw[←hS.len];exact h2),ZfN h2]
theorem ZtJ (hS:SameD R X) (hi:i<X.length):eaP R X i X[i].length=eaP R X (i+1) 0:=by
 apply List.ext_getElem
 ·rw[ZcU,ZcU]
 ·intro r h1 h2
  rw[Zho h1,Zho h2]
  by_cases h:r<i
  ·rw[if_pos h,if_pos (by omega)]
  ·rw[if_neg h]
   by_cases h3:r=i
   ·subst h3
    have hr:r<R.length:=by rw[hS.len];exact hi
    rw[if_pos rfl,if_pos (Nat.lt_succ_self r),ZfN hr,ZfN hi,←hS.row r hr hi,List.take_length,hS.row r hr hi,List.drop_length,List.append_nil]
   ·rw[if_neg h3,if_neg (show ¬r<i+1 by omega)]
    split
    ·rename_i h4;subst h4;simp
    ·rfl
theorem Zjo (hS:SameD R X) (hi:i<X.length) (h:i<(eaP R X i k).length):(eaP R X i k)[i]=(R[i]'(by rw[hS.len];exact hi)).take k++X[i].drop k:=by
 rw[Zho h,if_neg (Nat.lt_irrefl i),if_pos rfl,ZfN (by rw[hS.len];exact hi),ZfN hi]
theorem Zop (hS:SameD R X) (hi:i<X.length) (h:i<(eaP R X i k).length) (hk:k≤X[i].length):((eaP R X i k)[i]).length=X[i].length:=by
 rw[Zjo hS hi h,List.length_append,List.length_take,List.length_drop]
 have:=hS.row i (by rw[hS.len];exact hi) hi
 omega
theorem ZsU (hS:SameD R X) (hi:i<X.length) (h:i<(eaP R X i k).length) (hk:k<X[i].length):((eaP R X i k)[i])[k]? =some X[i][k]:=by
 have:=hS.row i (by rw[hS.len];exact hi) hi
 rw[Zjo hS hi h,List.getElem?_append_right (by rw[List.length_take];omega),List.length_take,Nat.min_eq_left (by omega),Nat.sub_self,List.getElem?_drop,Nat.add_zero,List.getElem?_eq_getElem hk]
theorem Zs2 (hS:SameD R X) (hi:i<X.length) (h:i<(eaP R X i k).length) (hk:k<X[i].length) (hk2:k<(R[i]'(by rw[hS.len];exact hi)).length):(eaP R X i k).set i (((eaP R X i k)[i]).set k ((R[i]'(by rw[hS.len];exact hi))[k]))=eaP R X i (k+1):=by
 apply List.ext_getElem
 ·rw[List.length_set,ZcU,ZcU]
 ·intro r h1 h2
  rw[List.getElem_set]
  by_cases e:i=r
  ·subst e
   rw[if_pos rfl,Zjo hS hi h,Zjo hS hi h2,List.set_append_right _ _ (by rw[List.length_take];omega),List.length_take,Nat.min_eq_left (by omega),Nat.sub_self,List.drop_eq_getElem_cons hk,List.set_cons_zero,List.take_succ_eq_append_getElem hk2,List.append_assoc]
   rfl
  ·rw[if_neg e,Zho (by rw[ZcU];rw[ZcU]at h2;exact h2),Zho h2]
   by_cases h3:r<i
   ·rw[if_pos h3,if_pos h3]
   ·rw[if_neg h3,if_neg h3,if_neg (fun x=>e x.symm),if_neg (fun x=>e x.symm)]
end
set_option maxHeartbeats 16000000 in
theorem Zt3 (f:FuncId) (caps:List SV) (g:Rat→Rat→Rat) (pss qss:List (List Rat)) (hl:pss.length≤40) (hr: ∀ps∈pss,ps.length≤40) (hrq: ∀qs∈qss,qs.length≤40) (hS:SameD qss pss) (hfp: ∀ps∈pss,∀p∈ps,Zeu p=true) (hfq: ∀ps∈qss,∀p∈ps,Zeu p=true)
 (ho:(!Zat.opn f)=true) (hC: ∀hp p q K,Zeu p=true→Zeu q=true→K (QR (g p q)) hp→Zb2 Tryz.prog Zat f ([]++ [QR p,QR q]++caps) hp K):
 PureOK Tryz.prog Zat 46 [.v (.l (.l .s)) (ZeH pss), .v (.l (.l .s)) (ZeH qss), .func f [] caps] (fun V=>V=ZmA (Zeb g pss qss)):=by
 refine Zak Zal Tryz.func46 ?_
 have hVx:=Zm3 pss [] (by omega) (fun ps hp=>by have:=hr ps hp;omega) hfp
 have hVy:=Zm3 qss ([]++(.many (.l qct) (ZaM 1 (Zkf pss)) true::Za0 qct (Zkf pss))) (by rw[hS.len];omega) (fun ps hp=>by have:=hrq ps hp;omega) hfq
 have hxl:(Zkf pss).length=pss.length:=ZgX pss
 have hyl:(Zkf qss).length=pss.length:=(ZgX qss).trans hS.len
 have hx:=fun i (h:i<pss.length)=>Zg7 h
 have hy:=fun i (h:i<qss.length)=>Zg7 h
 have hzl:(Zeb g pss qss).length=pss.length:=by rw[Zeb,List.length_zipWith,hS.len,Nat.min_self]
 have hzr: ∀i (h:i<pss.length) (h2:i<(Zeb g pss qss).length) (h3:i<qss.length),(Zeb g pss qss)[i]=List.zipWith g pss[i] qss[i]:=fun i h h2 h3=>by simp only[Zeb,List.getElem_zipWith]
 have hT:=Zun (Zeb g pss qss) (by omega) (fun ps hp=>by
  obtain⟨i,hi,rfl⟩:=List.getElem_of_mem hp
  rw[hzr i (by omega) hi (by rw[hS.len];omega),List.length_zipWith]
  have:=hr _ (List.getElem_mem (show i<pss.length by omega))
  omega)
 have hRl:(Zkf (Zeb g pss qss)).length=pss.length:=(ZgX _).trans hzl
 have hRr:=fun i (h:i<(Zeb g pss qss).length)=>Zg7 h
 obtain⟨R,eR⟩: ∃l,Zkf (Zeb g pss qss)=l:=⟨_,rfl⟩
 obtain⟨X,eX⟩: ∃l,Zkf pss=l:=⟨_,rfl⟩
 obtain⟨Y,eY⟩: ∃l,Zkf qss=l:=⟨_,rfl⟩
 rw[eR]at hRl hRr hT
 rw[eX]at hVx hVy hxl hx
 rw[eY]at hVy hyl hy
 have hSR:SameD R X:=⟨by omega,fun r h1 h2=>by
  have e1:=hRr r (by omega)
  have e2:=hx r (by omega)
  rw[List.getElem?_eq_getElem h1]at e1
  rw[List.getElem?_eq_getElem h2]at e2
  rw[Option.some.inj e1,Option.some.inj e2,List.length_map,List.length_map,hzr r (by omega) (by omega) (by rw[hS.len];omega),List.length_zipWith,hS.row r (by rw[hS.len];omega) (by omega),Nat.min_self]⟩
 have hXi: ∀i (h:i<X.length) (h2:i<pss.length),X[i]=pss[i].map ZcB:=fun i h h2=>by have:=hx i h2;rw[List.getElem?_eq_getElem h]at this;exact Option.some.inj this
 have hYi: ∀i (h:i<Y.length) (h2:i<qss.length),Y[i]=qss[i].map ZcB:=fun i h h2=>by have:=hy i h2;rw[List.getElem?_eq_getElem h]at this;exact Option.some.inj this
 have hRi: ∀i (h:i<R.length) (h2:i<(Zeb g pss qss).length),R[i]=(Zeb g pss qss)[i].map ZcB:=fun i h h2=>by have:=hRr i h2;rw[List.getElem?_eq_getElem h]at this;exact Option.some.inj this
 repeat (first|refine Zaj ?_|refine Zaf ?_|refine Zac ?_)
 first|refine Zab (Zaa (id:=0) rfl ?_)|refine Zab (Zab (Zaa (id:=0) rfl ?_))|refine Zaa (id:=0) rfl ?_|refine Zab (Zad rfl (Zab (Zaa (id:=0) rfl ?_)))|refine Zad rfl (Zab (Zaa (id:=0) rfl ?_))
 refine Zah rfl (fun _=>rfl) rfl rfl ?_
 refine Zah rfl (fun _=>rfl) rfl rfl ?_
 refine Zam ?_
 repeat (first|refine Zaf ?_|refine Zac ?_)
 repeat (first|refine Zaj ?_|refine Zaf ?_|refine Zac ?_)
 first|refine Zab (Zaa (id:=1) rfl ?_)|refine Zab (Zab (Zaa (id:=1) rfl ?_))|refine Zaa (id:=1) rfl ?_|refine Zab (Zad rfl (Zab (Zaa (id:=1) rfl ?_)))|refine Zad rfl (Zab (Zaa (id:=1) rfl ?_))
 refine Zah rfl (fun _=>rfl) rfl rfl ?_
 refine Zbv rfl ((hVx.mono ?_))
 rintro _ _ ⟨rfl,rfl⟩
 refine ZaE rfl rfl ?_
 refine Zah rfl (fun _=>rfl) rfl rfl ?_
 refine Zbv rfl ((hVy.mono ?_))
 rintro _ _ ⟨rfl,rfl⟩
 refine ZaE rfl rfl ?_
 refine Zah rfl (fun _=>rfl) rfl rfl ?_
 refine Zah rfl (fun _=>rfl) rfl rfl ?_
 refine Zam ?_
 repeat (first|refine Zaf ?_|refine Zac ?_)
 have hlen:(([]:List SM)++(SM.many (.l qct) (ZaM 1 X) true::Za0 qct X)).length=pss.length+1:=by rw[List.nil_append,List.length_cons,ZaF,hxl]
 obtain⟨ex,eex⟩: ∃ex:List SM,(SM.many (.l qct) (ZaM (pss.length+2) Y) true::Za0 qct Y)=ex:=⟨_,rfl⟩
 refine Zaw Zal rfl (fun(t:Nat×List (List qct.D))=> [(2, .func f [] caps),(8, .ref 0 0 pss.length none),(9, .ref (pss.length+1) 0 qss.length none),(17, .v (.i .i64) (pss.length:Int)),(18, .v (.i .i64) (t.1:Int))]) (fun t=> .many (.l qct) (ZaM 1 t.2) true::([]++(Za0 qct t.2++ex)))
  (fun t=>t.1≤pss.length∧t.2=eaP R X t.1 0) (fun t=>pss.length-t.1) ?_ (0,X) ⟨Nat.zero_le _,ZsO.symm⟩ ?_
 ·rintro⟨i,xs⟩ ⟨hi,hxs⟩
  simp only at hi hxs
  refine And.intro (fun h=> ?_) (fun h=> ?_)
  ·have hlt:i<pss.length:=by have h':(i:Int)<(pss.length:Int):=of_decide_eq_true h;omega
   have hltX:i<X.length:=by omega
   have hltY:i<Y.length:=by omega
   have hltR:i<R.length:=by omega
   have hltQ:i<qss.length:=by rw[hS.len];exact hlt
   have w2:IntKind.i64.wrap ((i:Int)+1)=((i+1:Nat):Int):=Zan (by omega) (by omega)
   have ci:(0:Int)≤(i:Int)∧(i:Int)<(pss.length:Nat):=by omega
   have ciq:(0:Int)≤(i:Int)∧(i:Int)<(qss.length:Nat):=by omega
   have hxsl:i<xs.length:=by rw[hxs,ZcU];exact hltX
   have hel0:(ZaM 1 xs)[0+(i:Int).toNat]? =some (.ref (i+1) 0 xs[i].length none):=by rw[Int.toNat_natCast,Nat.zero_add];exact Zda hxsl
   have hXl:X[i].length=pss[i].length:=by rw[hXi i hltX hlt,List.length_map]
   have hYl:Y[i].length=pss[i].length:=by rw[hYi i hltY hltQ,List.length_map,hS.row i hltQ hlt]
   have hRl2:R[i].length=pss[i].length:=by rw[hSR.row i hltR hltX,hXl]
   have hxl0:xs[i].length=pss[i].length:=by simp only[hxs];rw[Zop hSR hltX _ (Nat.zero_le _),hXl]
   have hp40:=hr pss[i] (List.getElem_mem hlt)
   repeat (first|refine Zaj ?_|refine Zaf ?_|refine Zac ?_)
   first|refine Zab (Zaa (id:=4) rfl ?_)|refine Zab (Zab (Zaa (id:=4) rfl ?_))|refine Zaa (id:=4) rfl ?_|refine Zab (Zad rfl (Zab (Zaa (id:=4) rfl ?_)))|refine Zad rfl (Zab (Zaa (id:=4) rfl ?_))
   refine Zah rfl (fun _=>rfl) rfl rfl ?_
   refine Zah rfl (fun _=>rfl) rfl rfl ?_
   refine Zam ?_
   repeat (first|refine Zaf ?_|refine Zac ?_)
   repeat (first|refine Zaj ?_|refine Zaf ?_|refine Zac ?_)
   first|refine Zab (Zaa (id:=5) rfl ?_)|refine Zab (Zab (Zaa (id:=5) rfl ?_))|refine Zaa (id:=5) rfl ?_|refine Zab (Zad rfl (Zab (Zaa (id:=5) rfl ?_)))|refine Zad rfl (Zab (Zaa (id:=5) rfl ?_))
   refine Zah rfl (fun _=>rfl) rfl rfl ?_
   refine Zah rfl (fun _=>rfl) rfl rfl ?_
   refine Zqv rfl (fun _=>rfl) ci rfl rfl ?_
   refine Zwz rfl (fun _=>rfl) hel0 rfl rfl ?_
   refine Zah rfl (fun _=>rfl) rfl rfl ?_
   refine Zah rfl (fun _=>rfl) rfl rfl ?_
   refine Zam ?_
   repeat (first|refine Zaf ?_|refine Zac ?_)
   refine Zaw Zal rfl (fun(t:Nat×List (List qct.D))=> [(2, .func f [] caps),(8, .ref 0 0 pss.length none),(9, .ref (pss.length+1) 0 qss.length none),(17, .v (.i .i64) (pss.length:Int)),(18, .v (.i .i64) (i:Int)),(10, .v (.i .i64) (i:Int)),(25, .v (.i .i64) (pss[i].length:Int)),(26, .v (.i .i64) (t.1:Int))]) (fun t=> .many (.l qct) (ZaM 1 t.2) true::([]++(Za0 qct t.2++ex)))
    (fun t=>t.1≤pss[i].length∧t.2=eaP R X i t.1) (fun t=>pss[i].length-t.1) ?_ (0,xs) ⟨Nat.zero_le _,hxs⟩ ?_
   ·rintro⟨k,ys⟩ ⟨hk,hys⟩
    simp only at hk hys
    refine And.intro (fun h=> ?_) (fun h=> ?_)
    ·have hkl:k<pss[i].length:=by have h':(k:Int)<(pss[i].length:Int):=of_decide_eq_true h;omega
     have hyl2:ys.length=pss.length:=by rw[hys,ZcU,hxl]
     have hky:i<ys.length:=by omega
     have hel:(ZaM 1 ys)[0+(i:Int).toNat]? =some (.ref (i+1) 0 ys[i].length none):=by rw[Int.toNat_natCast,Nat.zero_add];exact Zda hky
     have hyr:ys[i].length=pss[i].length:=by simp only[hys];rw[Zop hSR hltX _ (by omega),hXl]
     have ck:(0:Int)≤(k:Int)∧(k:Int)<(ys[i].length:Nat):=by omega
     have ek:0+(k:Int).toNat=k:=by rw[Int.toNat_natCast,Nat.zero_add]
     have hkq:k<qss[i].length:=by rw[hS.row i hltQ hlt];exact hkl
     have hcell:ys[i][0+(k:Int).toNat]? =some (ZcB pss[i][k]):=by
      rw[ek]
      simp only[hys]
      rw[ZsU hSR hltX _ (by omega)]
      simp only[hXi i hltX hlt,List.getElem_map]
     have hely:(ZaM (pss.length+2) Y)[0+(i:Int).toNat]? =some (.ref (i+(pss.length+2)) 0 Y[i].length none):=by rw[Int.toNat_natCast,Nat.zero_add];exact Zda hltY
     have hn1:nth (SM.many (.l qct) (ZaM 1 ys) true::([]++(Za0 qct ys++ex))) (pss.length+1)=some (.many (.l qct) (ZaM (pss.length+2) Y) true):=(Zkq (j:=0) (by rw[List.length_nil];omega)).trans (by rw[←eex];rfl)
     have hn2:nth (SM.many (.l qct) (ZaM 1 ys) true::([]++(Za0 qct ys++ex))) (i+(pss.length+2))=some (.row qct Y[i] true):=(Zkq (j:=i+1) (by rw[List.length_nil];omega)).trans (by rw[←eex,List.getElem?_cons_succ];exact ZdJ hltY)
     have cky:(0:Int)≤(k:Int)∧(k:Int)<(Y[i].length:Nat):=by omega
     have hcy:Y[i][0+(k:Int).toNat]? =some (ZcB qss[i][k]):=by
      rw[ek,hYi i hltY hltQ,List.getElem?_map,List.getElem?_eq_getElem hkq];rfl
     have w3:IntKind.i64.wrap ((k:Int)+1)=((k+1:Nat):Int):=Zan (by omega) (by omega)
     have hst:=Zs2 (R:=R) (X:=X) (i:=i) (k:=k) hSR hltX (by rw[←hys];exact hky) (by omega) (by omega)
     simp only[←hys]at hst
     have hRk:R[i][k]'(by omega)=ZcB (g pss[i][k] qss[i][k]):=by
      simp only[hRi i hltR (by omega),List.getElem_map,hzr i hlt (by omega) hltQ,List.getElem_zipWith]
     rw[hRk]at hst
     have fp:=hfp pss[i] (List.getElem_mem hlt) pss[i][k] (List.getElem_mem hkl)
     have fq:=hfq qss[i] (List.getElem_mem hltQ) qss[i][k] (List.getElem_mem hkq)
     obtain⟨p,ep⟩: ∃x,pss[i][k]=x:=⟨_,rfl⟩
     obtain⟨q,eq⟩: ∃x,qss[i][k]=x:=⟨_,rfl⟩
     rw[ep]at hcell fp hst
     rw[eq]at hcy fq hst
     repeat (first|refine Zaj ?_|refine Zaf ?_|refine Zac ?_)
     first|refine Zab (Zaa (id:=7) rfl ?_)|refine Zab (Zab (Zaa (id:=7) rfl ?_))|refine Zaa (id:=7) rfl ?_|refine Zab (Zad rfl (Zab (Zaa (id:=7) rfl ?_)))|refine Zad rfl (Zab (Zaa (id:=7) rfl ?_))
     refine Zah rfl (fun _=>rfl) rfl rfl ?_
     refine Zah rfl (fun _=>rfl) rfl rfl ?_
     refine Zam ?_
     repeat (first|refine Zaf ?_|refine Zac ?_)
     repeat (first|refine Zaj ?_|refine Zaf ?_|refine Zac ?_)
     first|refine Zab (Zb1 (id:=8) rfl rfl ?_)|refine Zab (Zab (Zb1 (id:=8) rfl rfl ?_))|refine Zb1 (id:=8) rfl rfl ?_|refine Zab (Zad rfl (Zab (Zb1 (id:=8) rfl rfl ?_)))|refine Zad rfl (Zab (Zb1 (id:=8) rfl rfl ?_))|refine Zab (Zad rfl (Zb1 (id:=8) rfl rfl ?_))|refine Zad rfl (Zb1 (id:=8) rfl rfl ?_)
     refine Zrx rfl rfl rfl rfl rfl ?_
     refine Zrx rfl rfl rfl rfl rfl ?_
     refine ZvW rfl rfl rfl (fun _=>rfl) ci rfl rfl ?_
     refine ZwE rfl rfl rfl (fun _=>rfl) hel rfl rfl ?_
     refine Zrx rfl rfl rfl rfl rfl ?_
     refine Zeo rfl rfl (opv (fun _=>rfl) rfl rfl ?_)
     refine Zeo rfl rfl (opv (fun _=>rfl) rfl rfl ?_)
     refine Zeo rfl rfl (opv (fun _=>rfl) rfl rfl ?_)
     refine Zeo rfl rfl (opc (fun _=>rfl) ci rfl rfl ?_)
     refine Zeo rfl rfl (Zlq rfl rfl rfl hel rfl ?_)
     refine Zdm rfl rfl ?_
     refine Zeo rfl rfl (opv (fun _=>rfl) rfl rfl ?_)
     refine Zeo rfl rfl (ZgT rfl rfl rfl rfl rfl (Zhw hky rfl) rfl ck ?_)
     refine Zdm rfl rfl ?_
     refine Zeo rfl rfl (Znk (V:=QR p) rfl rfl (Zhw hky rfl) hcell rfl ?_)
     refine Zdm rfl rfl ?_
     refine Zeo rfl rfl (opv (fun _=>rfl) rfl rfl ?_)
     refine Zeo rfl rfl (opv (fun _=>rfl) rfl rfl ?_)
     refine Zeo rfl rfl (ZkK rfl rfl rfl rfl rfl hn1 rfl ciq ?_)
     refine Zdm rfl rfl ?_
     refine Zeo rfl rfl (Zlq rfl rfl hn1 hely rfl ?_)
     refine Zdm rfl rfl ?_
     refine Zeo rfl rfl (opv (fun _=>rfl) rfl rfl ?_)
     refine Zeo rfl rfl (ZgT rfl rfl rfl rfl rfl hn2 rfl cky ?_)
     refine Zdm rfl rfl ?_
     refine Zeo rfl rfl (Znk (V:=QR q) rfl rfl hn2 hcy rfl ?_)
     refine Zdm rfl rfl ?_
     refine Zxp rfl rfl rfl rfl rfl ho (hC _ p q _ fp fq ?_)
     refine Zdm rfl rfl ?_
     refine Zeo rfl rfl (ZgT rfl rfl rfl rfl rfl (Zhw hky rfl) rfl ck ?_)
     refine Zdm rfl rfl ?_
     refine Zw2 rfl rfl (Znc (z:=ZcB (g p q)) rfl rfl rfl (Zhw hky rfl) rfl hcell rfl rfl rfl ?_)
     refine ZgS rfl ?_
     refine Zvc ?_
     repeat (first|refine Zaf ?_|refine Zac ?_)
     refine⟨(k+1,ys.set i (ys[i].set k (ZcB (g p q)))),⟨hkl,hst⟩,by show pss[i].length-(k+1)<pss[i].length-k;omega, ?_⟩
     refine Ent.eqs (hp0:= .many (.l qct) (ZaM 1 (ys.set i (ys[i].set k (ZcB (g p q))))) true::([]++(Za0 qct (ys.set i (ys[i].set k (ZcB (g p q))))++ex))) ?_ (Zbu ⟨rfl,rfl,rfl,rfl,rfl,rfl,rfl,congrArg (fun x=>some (SV.v (.i .i64) x)) w3,trivial⟩)
     refine(ZuT (fr:=[]) (ex:=ex) (p:=1) hky rfl).trans ?_
     rw[Zls,ZiA hky (List.length_set ..)]
     show SM.many _ _ _::([]++(Za0 qct (ys.set i (ys[i].set (0+(k:Int).toNat) (ZcB (g p q))))++ex))=_
     rw[ek]
    ·have hk2:k=pss[i].length:=by have h': ¬ (k:Int)<(pss[i].length:Int):=of_decide_eq_false h;omega
     refine⟨(i+1,ys),⟨hlt,by show ys=eaP R X (i+1) 0;rw[hys,hk2,←hXl,ZtJ hSR hltX]⟩,by show pss.length-(i+1)<pss.length-i;omega, ?_⟩
     exact Zbu ⟨rfl,rfl,rfl,rfl,congrArg (fun x=>some (SV.v (.i .i64) x)) w2,trivial⟩
   ·exact Zbu ⟨rfl,rfl,rfl,rfl,rfl,rfl,congrArg (fun x=>some (SV.v (.i .i64) (x:Int))) (congrArg (fun n:Nat=>(n:Int)) hxl0),rfl,trivial⟩
  ·have hi2:i=pss.length:=by have h': ¬ (i:Int)<(pss.length:Int):=of_decide_eq_false h;omega
   have hxR:xs=R:=by rw[hxs,hi2,←hxl,Zsh hSR]
   have hxsl:pss.length=xs.length:=by rw[hxR];omega
   rw[←hxR]at hT
   have hfin: ∀V,V=ZmA (Zeb g pss qss)→V=ZmA (Zeb g pss qss):=fun V hV=>hV
   unfold ZmA at hT⊢
   cases hfm:ZnL (Zeb g pss qss)with
   |true=>
    rw[hfm]at hT
    repeat (first|refine Zaj ?_|refine Zaf ?_|refine Zac ?_)
    first|refine Zab (Zaa (id:=11) rfl ?_)|refine Zab (Zab (Zaa (id:=11) rfl ?_))|refine Zaa (id:=11) rfl ?_|refine Zab (Zad rfl (Zab (Zaa (id:=11) rfl ?_)))|refine Zad rfl (Zab (Zaa (id:=11) rfl ?_))
    refine Zah rfl (fun _=>rfl) rfl rfl ?_
    refine Zbv rfl (Zi5 rfl rfl rfl rfl rfl rfl (ZmT (m:=37) rfl hxsl (hT.mono ?_)))
    rintro _ rfl
    refine ZaE rfl rfl ?_
    refine Zah rfl (fun _=>rfl) rfl rfl ?_
    refine Zah rfl (fun _=>rfl) rfl rfl ?_
    refine Zah rfl (fun _=>rfl) rfl rfl ?_
    refine Zah rfl (fun _=>rfl) rfl rfl ?_
    refine Zam ?_
    repeat (first|refine Zaf ?_|refine Zac ?_)
    rfl
   |false=>
    rw[hfm]at hT
    repeat (first|refine Zaj ?_|refine Zaf ?_|refine Zac ?_)
    first|refine Zab (Zaa (id:=11) rfl ?_)|refine Zab (Zab (Zaa (id:=11) rfl ?_))|refine Zaa (id:=11) rfl ?_|refine Zab (Zad rfl (Zab (Zaa (id:=11) rfl ?_)))|refine Zad rfl (Zab (Zaa (id:=11) rfl ?_))
    refine Zah rfl (fun _=>rfl) rfl rfl ?_
    refine Zbv rfl (Zi5 rfl rfl rfl rfl rfl rfl (ZmT (m:=37) rfl hxsl (hT.mono ?_)))
    rintro _ rfl
    refine ZaE rfl rfl ?_
    refine Zah rfl (fun _=>rfl) rfl rfl ?_
    refine Zah rfl (fun _=>rfl) rfl rfl ?_
    refine Zah rfl (fun _=>rfl) rfl rfl ?_
    refine Zah rfl (fun _=>rfl) rfl rfl ?_
    refine Zam ?_
    repeat (first|refine Zaf ?_|refine Zac ?_)
    rfl
 ·refine Ent.eqs (hp0:= .many (.l qct) (ZaM 1 X) true::([]++(Za0 qct X++ex))) ?_ (Zbu ⟨rfl,rfl,congrArg (fun x=>some (SV.ref x 0 qss.length none)) hlen,rfl,rfl,trivial⟩)
  rw[hlen,←eex]
  rfl
end Go.Proofs.YtdnodlkdndfplaaGreatDoor
