/-
 slices.Delete and slices.Clone of a network's lists. (Printed by tools/gendel.py.)
-/
import Derived.Test.YtgngdcpglnfkeaaDoorU6
import Derived.Test.YtgngdcpglnfkeaaDoorTxK
set_option linter.constructorNameAsVariable false
set_option linter.unusedSimpArgs false
set_option linter.unusedVariables false
namespace Go.Proofs.YtgngdcpglnfkeaaDoor
open Go.Am Go.Tx Ne
set_option maxRecDepth 100000
theorem Ze0 {α:Type} {l:List α} {j:Nat} (hj:j<l.length):(spl l (0+j) (sub l (0+(j+1)) (l.length-(j+1)))).length=l.length:=by
 rw[spl,sub,Nat.zero_add,Nat.zero_add]
 simp only[List.length_append,List.length_take,List.length_drop]
 omega
theorem Zgs {α:Type} {l r:List α} {p:Nat} (h:p+r.length≤l.length):(spl l p r).length=l.length:=by
 rw[spl]
 simp only[List.length_append,List.length_take,List.length_drop]
 omega
theorem ZdB {α:Type} {l r:List α} {j:Nat} (hj:j<l.length):sub (spl (spl l (0+j) (sub l (0+(j+1)) (l.length-(j+1)))) (0+(j+(l.length-(j+1)))) r) 0 (j+(l.length-(j+1)))=l.eraseIdx j:=by
 have hl:=Ze0 hj
 have e:(spl l (0+j) (sub l (0+(j+1)) (l.length-(j+1)))).take (j+(l.length-(j+1)))=l.eraseIdx j:=by
  rw[spl,sub,Nat.zero_add,Nat.zero_add,List.eraseIdx_eq_take_drop_succ]
  have e1:(l.drop (j+1)).take (l.length-(j+1))=l.drop (j+1):=List.take_of_length_le (by rw[List.length_drop];omega)
  rw[e1,←List.append_assoc,List.take_append_of_le_length (by simp only[List.length_append,List.length_take,List.length_drop];omega)]
  exact List.take_of_length_le (by simp only[List.length_append,List.length_take,List.length_drop];omega)
 rw[←e]
 generalize spl l (0+j) (sub l (0+(j+1)) (l.length-(j+1)))=X at hl
 have hX:j+(l.length-(j+1))≤X.length:=by omega
 generalize j+(l.length-(j+1))=p at hX
 rw[sub,spl,List.drop_zero,Nat.zero_add,List.take_append_of_le_length (by rw[List.length_take];omega),List.take_take,Nat.min_self]
set_option maxHeartbeats 8000000 in
theorem Zu6 (hp:List SM) (id:Nat) (l:List Sw) (j:Nat) (hj:j<l.length) (hl:l.length≤1000) (hr:nth hp id=some (.row Ze6 l true)):
 OpenOK Tryd.prog Zaw 29 [.ref id 0 l.length none,nt j,nt (j+1)] hp (fun V hp'=>V= .ref id 0 (j+(l.length-(j+1))) (some l.length)∧ ∃l',hp'=hp.set id (.row Ze6 l' true)∧l'.length=l.length∧sub l' 0 (j+(l.length-(j+1)))=l.eraseIdx j):=by
 refine ZaO (fn:=Tryd.f29) (code:=Za0 Tryd.f29) Zao (by kernel_rfl) Tryd.func29 (by kernel_rfl) (Nat.le_of_ble_eq_true (by kernel_rfl)) ?_
 intro base
 have c3:(0:Int)≤(j:Int)∧(j:Int)≤((j+1:Nat):Int)∧((j+1:Nat):Int)≤(l.length:Int)∧(l.length:Int)≤((l.length:Nat):Int):=by omega
 have h1:decide ((j:Int)=((j+1:Nat):Int))=false:=by rw[decide_eq_false_iff_not];omega
 have c5:(0:Int)≤(j:Int)∧(j:Int)≤((l.length:Nat):Int):=by omega
 have c6:(0:Int)≤((j+1:Nat):Int)∧((j+1:Nat):Int)≤(l.length:Int):=by omega
 have a1:0+(j+(l.length-(j+1)))≤l.length:=by omega
 have a2:0+(j+1)+(l.length-(j+1))≤l.length:=by omega
 have a3:j+(l.length-(j+1))≤l.length:=by omega
 have hr2:nth (hp.set id (.row Ze6 (spl l (0+j) (sub l (0+(j+1)) (l.length-(j+1)))) true)) id=some (.row Ze6 (spl l (0+j) (sub l (0+(j+1)) (l.length-(j+1)))) true):=Zex hr
 have hL:=Ze0 hj
 have c7:(0:Int)≤((j+(l.length-(j+1)):Nat):Int)∧((j+(l.length-(j+1)):Nat):Int)≤(l.length:Int)∧(l.length:Int)≤((l.length:Nat):Int):=by omega
 have a4:0+(j+(l.length-(j+1)))+(l.length-(j+(l.length-(j+1))))≤(spl l (0+j) (sub l (0+(j+1)) (l.length-(j+1)))).length:=by rw[hL];omega
 refine Zae ?_
 refine Zab ?_
 refine Zaf ?_
 refine Zae ?_
 iterate 5 refine Zab ?_
 refine Zac rfl (ZoG rfl rfl rfl rfl hr rfl rfl rfl rfl c3 ?_)
 refine Zaa rfl rfl ?_
 refine Zaf ?_
 refine Zae ?_
 iterate 3 refine Zab ?_
 refine Zaf ?_
 refine brF h1 ?_
 refine Zae ?_
 iterate 3 refine Zab ?_
 refine Zaf ?_
 refine Zae ?_
 iterate 2 refine Zab ?_
 refine Zac rfl (Zf9 rfl rfl rfl rfl hr rfl rfl c5 ?_)
 refine Zaa rfl rfl ?_
 iterate 2 refine Zab ?_
 refine Zac rfl (ZgH rfl rfl rfl rfl hr rfl rfl c6 ?_)
 refine Zaa rfl rfl ?_
 refine Zac rfl (ZiP rfl rfl rfl rfl rfl rfl rfl rfl rfl hr hr a1 a2 a3 ?_)
 refine Zaa rfl rfl ?_
 refine Zab ?_
 refine Zaf ?_
 refine Zae ?_
 iterate 4 refine Zab ?_
 refine Zac rfl (ZgO rfl rfl rfl rfl hr2 rfl rfl rfl c7 ?_)
 refine Zaa rfl rfl ?_
 refine Zac rfl (ZeK rfl rfl rfl rfl rfl rfl rfl hr2 a4 ?_)
 refine Zar rfl ?_
 refine Zaf ?_
 refine Zae ?_
 iterate 2 refine Zab ?_
 refine Zaf ?_
 refine⟨rfl,_,List.set_set .., ?_,ZdB hj⟩
 refine(Zgs ?_).trans hL
 rw[List.length_replicate];exact a4
theorem Zwn (l:List Sw) (hl:l.length≤1000):ImpOK Tryd.prog Zaw 45 [.v (.l Ze6) l] (fun V hp sf=>V= .ref 0 0 l.length none∧hp=[.row Ze6 l true]∧sf=true):=by
 refine Zcj (fn:=Tryd.f45) (code:=Za0 Tryd.f45) Zao (by kernel_rfl) Tryd.func45 (by kernel_rfl) (Nat.le_of_ble_eq_true (by kernel_rfl)) ?_
 refine And.intro (fun h=>And.intro (fun _=> ?_) (fun h=>nomatch h)) (And.intro (fun h=>nomatch h) (fun _=> ?_))
 ·subst h
  refine⟨.ref 0 0 0 none,[.row Ze6 [] true], ?_,rfl,rfl,rfl,rfl⟩
  refine Zbm rfl rfl ?_ ?_
  ·exact⟨⟨rfl,rfl,rfl⟩,trivial⟩
  ·exact⟨rfl,trivial⟩
 ·cases l with
  |nil=>
   refine And.intro (Nat.zero_le _) ?_
   refine⟨.ref 0 0 0 none,[.row Ze6 [] true], ?_,rfl,rfl,rfl,rfl⟩
   refine Zbm rfl rfl ?_ ?_
   ·exact⟨⟨rfl,rfl,rfl⟩,trivial⟩
   ·exact⟨⟨rfl,fun _=>rfl⟩,trivial⟩
  |cons x r=>
   refine And.intro (Nat.zero_le _) ?_
   refine And.intro (show(0+(r.length+1))*56≤140737488355328 by rw[List.length_cons]at hl;omega) ?_
   refine⟨.ref 0 0 (r.length+1) none,[.row Ze6 (x::r) true], ?_,rfl,rfl,rfl,rfl⟩
   refine Zbm rfl rfl ?_ ?_
   ·have e1:r.length+1=0+(r.length+1):=(Nat.zero_add _).symm
    exact⟨⟨rfl,e1,e1⟩,trivial⟩
   ·exact⟨⟨rfl,fun _=>rfl⟩,trivial⟩
set_option maxHeartbeats 8000000 in
theorem Zvj (hp:List SM) (id:Nat) (l:List Br) (j:Nat) (hj:j<l.length) (hl:l.length≤1000) (hr:nth hp id=some (.row Zfu l true)):
 OpenOK Tryd.prog Zaw 30 [.ref id 0 l.length none,nt j,nt (j+1)] hp (fun V hp'=>V= .ref id 0 (j+(l.length-(j+1))) (some l.length)∧ ∃l',hp'=hp.set id (.row Zfu l' true)∧l'.length=l.length∧sub l' 0 (j+(l.length-(j+1)))=l.eraseIdx j):=by
 refine ZaO (fn:=Tryd.f30) (code:=Za0 Tryd.f30) Zao (by kernel_rfl) Tryd.func30 (by kernel_rfl) (Nat.le_of_ble_eq_true (by kernel_rfl)) ?_
 intro base
 have c3:(0:Int)≤(j:Int)∧(j:Int)≤((j+1:Nat):Int)∧((j+1:Nat):Int)≤(l.length:Int)∧(l.length:Int)≤((l.length:Nat):Int):=by omega
 have h1:decide ((j:Int)=((j+1:Nat):Int))=false:=by rw[decide_eq_false_iff_not];omega
 have c5:(0:Int)≤(j:Int)∧(j:Int)≤((l.length:Nat):Int):=by omega
 have c6:(0:Int)≤((j+1:Nat):Int)∧((j+1:Nat):Int)≤(l.length:Int):=by omega
 have a1:0+(j+(l.length-(j+1)))≤l.length:=by omega
 have a2:0+(j+1)+(l.length-(j+1))≤l.length:=by omega
 have a3:j+(l.length-(j+1))≤l.length:=by omega
 have hr2:nth (hp.set id (.row Zfu (spl l (0+j) (sub l (0+(j+1)) (l.length-(j+1)))) true)) id=some (.row Zfu (spl l (0+j) (sub l (0+(j+1)) (l.length-(j+1)))) true):=Zex hr
 have hL:=Ze0 hj
 have c7:(0:Int)≤((j+(l.length-(j+1)):Nat):Int)∧((j+(l.length-(j+1)):Nat):Int)≤(l.length:Int)∧(l.length:Int)≤((l.length:Nat):Int):=by omega
 have a4:0+(j+(l.length-(j+1)))+(l.length-(j+(l.length-(j+1))))≤(spl l (0+j) (sub l (0+(j+1)) (l.length-(j+1)))).length:=by rw[hL];omega
 refine Zae ?_
 refine Zab ?_
 refine Zaf ?_
 refine Zae ?_
 iterate 5 refine Zab ?_
 refine Zac rfl (ZoG rfl rfl rfl rfl hr rfl rfl rfl rfl c3 ?_)
 refine Zaa rfl rfl ?_
 refine Zaf ?_
 refine Zae ?_
 iterate 3 refine Zab ?_
 refine Zaf ?_
 refine brF h1 ?_
 refine Zae ?_
 iterate 3 refine Zab ?_
 refine Zaf ?_
 refine Zae ?_
 iterate 2 refine Zab ?_
 refine Zac rfl (Zf9 rfl rfl rfl rfl hr rfl rfl c5 ?_)
 refine Zaa rfl rfl ?_
 iterate 2 refine Zab ?_
 refine Zac rfl (ZgH rfl rfl rfl rfl hr rfl rfl c6 ?_)
 refine Zaa rfl rfl ?_
 refine Zac rfl (ZiP rfl rfl rfl rfl rfl rfl rfl rfl rfl hr hr a1 a2 a3 ?_)
 refine Zaa rfl rfl ?_
 refine Zab ?_
 refine Zaf ?_
 refine Zae ?_
 iterate 4 refine Zab ?_
 refine Zac rfl (ZgO rfl rfl rfl rfl hr2 rfl rfl rfl c7 ?_)
 refine Zaa rfl rfl ?_
 refine Zac rfl (ZeK rfl rfl rfl rfl rfl rfl rfl hr2 a4 ?_)
 refine Zar rfl ?_
 refine Zaf ?_
 refine Zae ?_
 iterate 2 refine Zab ?_
 refine Zaf ?_
 refine⟨rfl,_,List.set_set .., ?_,ZdB hj⟩
 refine(Zgs ?_).trans hL
 rw[List.length_replicate];exact a4
theorem ZvP (l:List Br) (hl:l.length≤1000):ImpOK Tryd.prog Zaw 46 [.v (.l Zfu) l] (fun V hp sf=>V= .ref 0 0 l.length none∧hp=[.row Zfu l true]∧sf=true):=by
 refine Zcj (fn:=Tryd.f46) (code:=Za0 Tryd.f46) Zao (by kernel_rfl) Tryd.func46 (by kernel_rfl) (Nat.le_of_ble_eq_true (by kernel_rfl)) ?_
 refine And.intro (fun h=>And.intro (fun _=> ?_) (fun h=>nomatch h)) (And.intro (fun h=>nomatch h) (fun _=> ?_))
 ·subst h
  refine⟨.ref 0 0 0 none,[.row Zfu [] true], ?_,rfl,rfl,rfl,rfl⟩
  refine Zbm rfl rfl ?_ ?_
  ·exact⟨⟨rfl,rfl,rfl⟩,trivial⟩
  ·exact⟨rfl,trivial⟩
 ·cases l with
  |nil=>
   refine And.intro (Nat.zero_le _) ?_
   refine⟨.ref 0 0 0 none,[.row Zfu [] true], ?_,rfl,rfl,rfl,rfl⟩
   refine Zbm rfl rfl ?_ ?_
   ·exact⟨⟨rfl,rfl,rfl⟩,trivial⟩
   ·exact⟨⟨rfl,fun _=>rfl⟩,trivial⟩
  |cons x r=>
   refine And.intro (Nat.zero_le _) ?_
   refine And.intro (show(0+(r.length+1))*96≤140737488355328 by rw[List.length_cons]at hl;omega) ?_
   refine⟨.ref 0 0 (r.length+1) none,[.row Zfu (x::r) true], ?_,rfl,rfl,rfl,rfl⟩
   refine Zbm rfl rfl ?_ ?_
   ·have e1:r.length+1=0+(r.length+1):=(Nat.zero_add _).symm
    exact⟨⟨rfl,e1,e1⟩,trivial⟩
   ·exact⟨⟨rfl,fun _=>rfl⟩,trivial⟩
set_option maxHeartbeats 8000000 in
theorem ZuY (hp:List SM) (id:Nat) (l:List Ge) (j:Nat) (hj:j<l.length) (hl:l.length≤1000) (hr:nth hp id=some (.row (.p .s (.p .s (.p (.i .i64) (.p (.i .i64) (.i .i64))))) l true)):
 OpenOK Tryd.prog Zaw 31 [.ref id 0 l.length none,nt j,nt (j+1)] hp (fun V hp'=>V= .ref id 0 (j+(l.length-(j+1))) (some l.length)∧ ∃l',hp'=hp.set id (.row (.p .s (.p .s (.p (.i .i64) (.p (.i .i64) (.i .i64))))) l' true)∧l'.length=l.length∧sub l' 0 (j+(l.length-(j+1)))=l.eraseIdx j):=by
 refine ZaO (fn:=Tryd.f31) (code:=Za0 Tryd.f31) Zao (by kernel_rfl) Tryd.func31 (by kernel_rfl) (Nat.le_of_ble_eq_true (by kernel_rfl)) ?_
 intro base
 have c3:(0:Int)≤(j:Int)∧(j:Int)≤((j+1:Nat):Int)∧((j+1:Nat):Int)≤(l.length:Int)∧(l.length:Int)≤((l.length:Nat):Int):=by omega
 have h1:decide ((j:Int)=((j+1:Nat):Int))=false:=by rw[decide_eq_false_iff_not];omega
 have c5:(0:Int)≤(j:Int)∧(j:Int)≤((l.length:Nat):Int):=by omega
 have c6:(0:Int)≤((j+1:Nat):Int)∧((j+1:Nat):Int)≤(l.length:Int):=by omega
 have a1:0+(j+(l.length-(j+1)))≤l.length:=by omega
 have a2:0+(j+1)+(l.length-(j+1))≤l.length:=by omega
 have a3:j+(l.length-(j+1))≤l.length:=by omega
 have hr2:nth (hp.set id (.row (.p .s (.p .s (.p (.i .i64) (.p (.i .i64) (.i .i64))))) (spl l (0+j) (sub l (0+(j+1)) (l.length-(j+1)))) true)) id=some (.row (.p .s (.p .s (.p (.i .i64) (.p (.i .i64) (.i .i64))))) (spl l (0+j) (sub l (0+(j+1)) (l.length-(j+1)))) true):=Zex hr
 have hL:=Ze0 hj
 have c7:(0:Int)≤((j+(l.length-(j+1)):Nat):Int)∧((j+(l.length-(j+1)):Nat):Int)≤(l.length:Int)∧(l.length:Int)≤((l.length:Nat):Int):=by omega
 have a4:0+(j+(l.length-(j+1)))+(l.length-(j+(l.length-(j+1))))≤(spl l (0+j) (sub l (0+(j+1)) (l.length-(j+1)))).length:=by rw[hL];omega
 refine Zae ?_
 refine Zab ?_
 refine Zaf ?_
 refine Zae ?_
 iterate 5 refine Zab ?_
 refine Zac rfl (ZoG rfl rfl rfl rfl hr rfl rfl rfl rfl c3 ?_)
 refine Zaa rfl rfl ?_
 refine Zaf ?_
 refine Zae ?_
 iterate 3 refine Zab ?_
 refine Zaf ?_
 refine brF h1 ?_
 refine Zae ?_
 iterate 3 refine Zab ?_
 refine Zaf ?_
 refine Zae ?_
 iterate 2 refine Zab ?_
 refine Zac rfl (Zf9 rfl rfl rfl rfl hr rfl rfl c5 ?_)
 refine Zaa rfl rfl ?_
 iterate 2 refine Zab ?_
 refine Zac rfl (ZgH rfl rfl rfl rfl hr rfl rfl c6 ?_)
 refine Zaa rfl rfl ?_
 refine Zac rfl (ZiP rfl rfl rfl rfl rfl rfl rfl rfl rfl hr hr a1 a2 a3 ?_)
 refine Zaa rfl rfl ?_
 refine Zab ?_
 refine Zaf ?_
 refine Zae ?_
 iterate 4 refine Zab ?_
 refine Zac rfl (ZgO rfl rfl rfl rfl hr2 rfl rfl rfl c7 ?_)
 refine Zaa rfl rfl ?_
 refine Zac rfl (ZeK rfl rfl rfl rfl rfl rfl rfl hr2 a4 ?_)
 refine Zar rfl ?_
 refine Zaf ?_
 refine Zae ?_
 iterate 2 refine Zab ?_
 refine Zaf ?_
 refine⟨rfl,_,List.set_set .., ?_,ZdB hj⟩
 refine(Zgs ?_).trans hL
 rw[List.length_replicate];exact a4
theorem Zwh (l:List Ge) (hl:l.length≤1000):ImpOK Tryd.prog Zaw 47 [.v (.l (.p .s (.p .s (.p (.i .i64) (.p (.i .i64) (.i .i64)))))) l] (fun V hp sf=>V= .ref 0 0 l.length none∧hp=[.row (.p .s (.p .s (.p (.i .i64) (.p (.i .i64) (.i .i64))))) l true]∧sf=true):=by
 refine Zcj (fn:=Tryd.f47) (code:=Za0 Tryd.f47) Zao (by kernel_rfl) Tryd.func47 (by kernel_rfl) (Nat.le_of_ble_eq_true (by kernel_rfl)) ?_
 refine And.intro (fun h=>And.intro (fun _=> ?_) (fun h=>nomatch h)) (And.intro (fun h=>nomatch h) (fun _=> ?_))
 ·subst h
  refine⟨.ref 0 0 0 none,[.row (.p .s (.p .s (.p (.i .i64) (.p (.i .i64) (.i .i64))))) [] true], ?_,rfl,rfl,rfl,rfl⟩
  refine Zbm rfl rfl ?_ ?_
  ·exact⟨⟨rfl,rfl,rfl⟩,trivial⟩
  ·exact⟨rfl,trivial⟩
 ·cases l with
  |nil=>
   refine And.intro (Nat.zero_le _) ?_
   refine⟨.ref 0 0 0 none,[.row (.p .s (.p .s (.p (.i .i64) (.p (.i .i64) (.i .i64))))) [] true], ?_,rfl,rfl,rfl,rfl⟩
   refine Zbm rfl rfl ?_ ?_
   ·exact⟨⟨rfl,rfl,rfl⟩,trivial⟩
   ·exact⟨⟨rfl,fun _=>rfl⟩,trivial⟩
  |cons x r=>
   refine And.intro (Nat.zero_le _) ?_
   refine And.intro (show(0+(r.length+1))*56≤140737488355328 by rw[List.length_cons]at hl;omega) ?_
   refine⟨.ref 0 0 (r.length+1) none,[.row (.p .s (.p .s (.p (.i .i64) (.p (.i .i64) (.i .i64))))) (x::r) true], ?_,rfl,rfl,rfl,rfl⟩
   refine Zbm rfl rfl ?_ ?_
   ·have e1:r.length+1=0+(r.length+1):=(Nat.zero_add _).symm
    exact⟨⟨rfl,e1,e1⟩,trivial⟩
   ·exact⟨⟨rfl,fun _=>rfl⟩,trivial⟩
set_option maxHeartbeats 8000000 in
theorem Zuv (hp:List SM) (id:Nat) (l:List Lo) (j:Nat) (hj:j<l.length) (hl:l.length≤1000) (hr:nth hp id=some (.row (.p .s (.p .s (.i .i64))) l true)):
 OpenOK Tryd.prog Zaw 32 [.ref id 0 l.length none,nt j,nt (j+1)] hp (fun V hp'=>V= .ref id 0 (j+(l.length-(j+1))) (some l.length)∧ ∃l',hp'=hp.set id (.row (.p .s (.p .s (.i .i64))) l' true)∧l'.length=l.length∧sub l' 0 (j+(l.length-(j+1)))=l.eraseIdx j):=by
 refine ZaO (fn:=Tryd.f32) (code:=Za0 Tryd.f32) Zao (by kernel_rfl) Tryd.func32 (by kernel_rfl) (Nat.le_of_ble_eq_true (by kernel_rfl)) ?_
 intro base
 have c3:(0:Int)≤(j:Int)∧(j:Int)≤((j+1:Nat):Int)∧((j+1:Nat):Int)≤(l.length:Int)∧(l.length:Int)≤((l.length:Nat):Int):=by omega
 have h1:decide ((j:Int)=((j+1:Nat):Int))=false:=by rw[decide_eq_false_iff_not];omega
 have c5:(0:Int)≤(j:Int)∧(j:Int)≤((l.length:Nat):Int):=by omega
 have c6:(0:Int)≤((j+1:Nat):Int)∧((j+1:Nat):Int)≤(l.length:Int):=by omega
 have a1:0+(j+(l.length-(j+1)))≤l.length:=by omega
 have a2:0+(j+1)+(l.length-(j+1))≤l.length:=by omega
 have a3:j+(l.length-(j+1))≤l.length:=by omega
 have hr2:nth (hp.set id (.row (.p .s (.p .s (.i .i64))) (spl l (0+j) (sub l (0+(j+1)) (l.length-(j+1)))) true)) id=some (.row (.p .s (.p .s (.i .i64))) (spl l (0+j) (sub l (0+(j+1)) (l.length-(j+1)))) true):=Zex hr
 have hL:=Ze0 hj
 have c7:(0:Int)≤((j+(l.length-(j+1)):Nat):Int)∧((j+(l.length-(j+1)):Nat):Int)≤(l.length:Int)∧(l.length:Int)≤((l.length:Nat):Int):=by omega
 have a4:0+(j+(l.length-(j+1)))+(l.length-(j+(l.length-(j+1))))≤(spl l (0+j) (sub l (0+(j+1)) (l.length-(j+1)))).length:=by rw[hL];omega
 refine Zae ?_
 refine Zab ?_
 refine Zaf ?_
 refine Zae ?_
 iterate 5 refine Zab ?_
 refine Zac rfl (ZoG rfl rfl rfl rfl hr rfl rfl rfl rfl c3 ?_)
 refine Zaa rfl rfl ?_
 refine Zaf ?_
 refine Zae ?_
 iterate 3 refine Zab ?_
 refine Zaf ?_
 refine brF h1 ?_
 refine Zae ?_
 iterate 3 refine Zab ?_
 refine Zaf ?_
 refine Zae ?_
 iterate 2 refine Zab ?_
 refine Zac rfl (Zf9 rfl rfl rfl rfl hr rfl rfl c5 ?_)
 refine Zaa rfl rfl ?_
 iterate 2 refine Zab ?_
 refine Zac rfl (ZgH rfl rfl rfl rfl hr rfl rfl c6 ?_)
 refine Zaa rfl rfl ?_
 refine Zac rfl (ZiP rfl rfl rfl rfl rfl rfl rfl rfl rfl hr hr a1 a2 a3 ?_)
 refine Zaa rfl rfl ?_
 refine Zab ?_
 refine Zaf ?_
 refine Zae ?_
 iterate 4 refine Zab ?_
 refine Zac rfl (ZgO rfl rfl rfl rfl hr2 rfl rfl rfl c7 ?_)
 refine Zaa rfl rfl ?_
 refine Zac rfl (ZeK rfl rfl rfl rfl rfl rfl rfl hr2 a4 ?_)
 refine Zar rfl ?_
 refine Zaf ?_
 refine Zae ?_
 iterate 2 refine Zab ?_
 refine Zaf ?_
 refine⟨rfl,_,List.set_set .., ?_,ZdB hj⟩
 refine(Zgs ?_).trans hL
 rw[List.length_replicate];exact a4
theorem ZvG (l:List Lo) (hl:l.length≤1000):ImpOK Tryd.prog Zaw 48 [.v (.l (.p .s (.p .s (.i .i64)))) l] (fun V hp sf=>V= .ref 0 0 l.length none∧hp=[.row (.p .s (.p .s (.i .i64))) l true]∧sf=true):=by
 refine Zcj (fn:=Tryd.f48) (code:=Za0 Tryd.f48) Zao (by kernel_rfl) Tryd.func48 (by kernel_rfl) (Nat.le_of_ble_eq_true (by kernel_rfl)) ?_
 refine And.intro (fun h=>And.intro (fun _=> ?_) (fun h=>nomatch h)) (And.intro (fun h=>nomatch h) (fun _=> ?_))
 ·subst h
  refine⟨.ref 0 0 0 none,[.row (.p .s (.p .s (.i .i64))) [] true], ?_,rfl,rfl,rfl,rfl⟩
  refine Zbm rfl rfl ?_ ?_
  ·exact⟨⟨rfl,rfl,rfl⟩,trivial⟩
  ·exact⟨rfl,trivial⟩
 ·cases l with
  |nil=>
   refine And.intro (Nat.zero_le _) ?_
   refine⟨.ref 0 0 0 none,[.row (.p .s (.p .s (.i .i64))) [] true], ?_,rfl,rfl,rfl,rfl⟩
   refine Zbm rfl rfl ?_ ?_
   ·exact⟨⟨rfl,rfl,rfl⟩,trivial⟩
   ·exact⟨⟨rfl,fun _=>rfl⟩,trivial⟩
  |cons x r=>
   refine And.intro (Nat.zero_le _) ?_
   refine And.intro (show(0+(r.length+1))*40≤140737488355328 by rw[List.length_cons]at hl;omega) ?_
   refine⟨.ref 0 0 (r.length+1) none,[.row (.p .s (.p .s (.i .i64))) (x::r) true], ?_,rfl,rfl,rfl,rfl⟩
   refine Zbm rfl rfl ?_ ?_
   ·have e1:r.length+1=0+(r.length+1):=(Nat.zero_add _).symm
    exact⟨⟨rfl,e1,e1⟩,trivial⟩
   ·exact⟨⟨rfl,fun _=>rfl⟩,trivial⟩
set_option maxHeartbeats 8000000 in
theorem ZuS (hp:List SM) (id:Nat) (l:List Sto) (j:Nat) (hj:j<l.length) (hl:l.length≤1000) (hr:nth hp id=some (.row (.p .s (.p .s (.p (.i .i64) (.p (.i .i64) (.i .i64))))) l true)):
 OpenOK Tryd.prog Zaw 33 [.ref id 0 l.length none,nt j,nt (j+1)] hp (fun V hp'=>V= .ref id 0 (j+(l.length-(j+1))) (some l.length)∧ ∃l',hp'=hp.set id (.row (.p .s (.p .s (.p (.i .i64) (.p (.i .i64) (.i .i64))))) l' true)∧l'.length=l.length∧sub l' 0 (j+(l.length-(j+1)))=l.eraseIdx j):=by
 refine ZaO (fn:=Tryd.f33) (code:=Za0 Tryd.f33) Zao (by kernel_rfl) Tryd.func33 (by kernel_rfl) (Nat.le_of_ble_eq_true (by kernel_rfl)) ?_
 intro base
 have c3:(0:Int)≤(j:Int)∧(j:Int)≤((j+1:Nat):Int)∧((j+1:Nat):Int)≤(l.length:Int)∧(l.length:Int)≤((l.length:Nat):Int):=by omega
 have h1:decide ((j:Int)=((j+1:Nat):Int))=false:=by rw[decide_eq_false_iff_not];omega
 have c5:(0:Int)≤(j:Int)∧(j:Int)≤((l.length:Nat):Int):=by omega
 have c6:(0:Int)≤((j+1:Nat):Int)∧((j+1:Nat):Int)≤(l.length:Int):=by omega
 have a1:0+(j+(l.length-(j+1)))≤l.length:=by omega
 have a2:0+(j+1)+(l.length-(j+1))≤l.length:=by omega
 have a3:j+(l.length-(j+1))≤l.length:=by omega
 have hr2:nth (hp.set id (.row (.p .s (.p .s (.p (.i .i64) (.p (.i .i64) (.i .i64))))) (spl l (0+j) (sub l (0+(j+1)) (l.length-(j+1)))) true)) id=some (.row (.p .s (.p .s (.p (.i .i64) (.p (.i .i64) (.i .i64))))) (spl l (0+j) (sub l (0+(j+1)) (l.length-(j+1)))) true):=Zex hr
 have hL:=Ze0 hj
 have c7:(0:Int)≤((j+(l.length-(j+1)):Nat):Int)∧((j+(l.length-(j+1)):Nat):Int)≤(l.length:Int)∧(l.length:Int)≤((l.length:Nat):Int):=by omega
 have a4:0+(j+(l.length-(j+1)))+(l.length-(j+(l.length-(j+1))))≤(spl l (0+j) (sub l (0+(j+1)) (l.length-(j+1)))).length:=by rw[hL];omega
 refine Zae ?_
 refine Zab ?_
 refine Zaf ?_
 refine Zae ?_
 iterate 5 refine Zab ?_
 refine Zac rfl (ZoG rfl rfl rfl rfl hr rfl rfl rfl rfl c3 ?_)
 refine Zaa rfl rfl ?_
 refine Zaf ?_
 refine Zae ?_
 iterate 3 refine Zab ?_
 refine Zaf ?_
 refine brF h1 ?_
 refine Zae ?_
 iterate 3 refine Zab ?_
 refine Zaf ?_
 refine Zae ?_
 iterate 2 refine Zab ?_
 refine Zac rfl (Zf9 rfl rfl rfl rfl hr rfl rfl c5 ?_)
 refine Zaa rfl rfl ?_
 iterate 2 refine Zab ?_
 refine Zac rfl (ZgH rfl rfl rfl rfl hr rfl rfl c6 ?_)
 refine Zaa rfl rfl ?_
 refine Zac rfl (ZiP rfl rfl rfl rfl rfl rfl rfl rfl rfl hr hr a1 a2 a3 ?_)
 refine Zaa rfl rfl ?_
 refine Zab ?_
 refine Zaf ?_
 refine Zae ?_
 iterate 4 refine Zab ?_
 refine Zac rfl (ZgO rfl rfl rfl rfl hr2 rfl rfl rfl c7 ?_)
 refine Zaa rfl rfl ?_
 refine Zac rfl (ZeK rfl rfl rfl rfl rfl rfl rfl hr2 a4 ?_)
 refine Zar rfl ?_
 refine Zaf ?_
 refine Zae ?_
 iterate 2 refine Zab ?_
 refine Zaf ?_
 refine⟨rfl,_,List.set_set .., ?_,ZdB hj⟩
 refine(Zgs ?_).trans hL
 rw[List.length_replicate];exact a4
theorem Zv6 (l:List Sto) (hl:l.length≤1000):ImpOK Tryd.prog Zaw 49 [.v (.l (.p .s (.p .s (.p (.i .i64) (.p (.i .i64) (.i .i64)))))) l] (fun V hp sf=>V= .ref 0 0 l.length none∧hp=[.row (.p .s (.p .s (.p (.i .i64) (.p (.i .i64) (.i .i64))))) l true]∧sf=true):=by
 refine Zcj (fn:=Tryd.f49) (code:=Za0 Tryd.f49) Zao (by kernel_rfl) Tryd.func49 (by kernel_rfl) (Nat.le_of_ble_eq_true (by kernel_rfl)) ?_
 refine And.intro (fun h=>And.intro (fun _=> ?_) (fun h=>nomatch h)) (And.intro (fun h=>nomatch h) (fun _=> ?_))
 ·subst h
  refine⟨.ref 0 0 0 none,[.row (.p .s (.p .s (.p (.i .i64) (.p (.i .i64) (.i .i64))))) [] true], ?_,rfl,rfl,rfl,rfl⟩
  refine Zbm rfl rfl ?_ ?_
  ·exact⟨⟨rfl,rfl,rfl⟩,trivial⟩
  ·exact⟨rfl,trivial⟩
 ·cases l with
  |nil=>
   refine And.intro (Nat.zero_le _) ?_
   refine⟨.ref 0 0 0 none,[.row (.p .s (.p .s (.p (.i .i64) (.p (.i .i64) (.i .i64))))) [] true], ?_,rfl,rfl,rfl,rfl⟩
   refine Zbm rfl rfl ?_ ?_
   ·exact⟨⟨rfl,rfl,rfl⟩,trivial⟩
   ·exact⟨⟨rfl,fun _=>rfl⟩,trivial⟩
  |cons x r=>
   refine And.intro (Nat.zero_le _) ?_
   refine And.intro (show(0+(r.length+1))*56≤140737488355328 by rw[List.length_cons]at hl;omega) ?_
   refine⟨.ref 0 0 (r.length+1) none,[.row (.p .s (.p .s (.p (.i .i64) (.p (.i .i64) (.i .i64))))) (x::r) true], ?_,rfl,rfl,rfl,rfl⟩
   refine Zbm rfl rfl ?_ ?_
   ·have e1:r.length+1=0+(r.length+1):=(Nat.zero_add _).symm
    exact⟨⟨rfl,e1,e1⟩,trivial⟩
   ·exact⟨⟨rfl,fun _=>rfl⟩,trivial⟩
set_option maxHeartbeats 8000000 in
theorem Zvm (hp:List SM) (id:Nat) (l:List Txt) (j:Nat) (hj:j<l.length) (hl:l.length≤1000) (hr:nth hp id=some (.row .s l true)):
 OpenOK Tryd.prog Zaw 19 [.ref id 0 l.length none,nt j,nt (j+1)] hp (fun V hp'=>V= .ref id 0 (j+(l.length-(j+1))) (some l.length)∧ ∃l',hp'=hp.set id (.row .s l' true)∧l'.length=l.length∧sub l' 0 (j+(l.length-(j+1)))=l.eraseIdx j):=by
 refine ZaO (fn:=Tryd.f19) (code:=Za0 Tryd.f19) Zao (by kernel_rfl) Tryd.func19 (by kernel_rfl) (Nat.le_of_ble_eq_true (by kernel_rfl)) ?_
 intro base
 have c3:(0:Int)≤(j:Int)∧(j:Int)≤((j+1:Nat):Int)∧((j+1:Nat):Int)≤(l.length:Int)∧(l.length:Int)≤((l.length:Nat):Int):=by omega
 have h1:decide ((j:Int)=((j+1:Nat):Int))=false:=by rw[decide_eq_false_iff_not];omega
 have c5:(0:Int)≤(j:Int)∧(j:Int)≤((l.length:Nat):Int):=by omega
 have c6:(0:Int)≤((j+1:Nat):Int)∧((j+1:Nat):Int)≤(l.length:Int):=by omega
 have a1:0+(j+(l.length-(j+1)))≤l.length:=by omega
 have a2:0+(j+1)+(l.length-(j+1))≤l.length:=by omega
 have a3:j+(l.length-(j+1))≤l.length:=by omega
 have hr2:nth (hp.set id (.row .s (spl l (0+j) (sub l (0+(j+1)) (l.length-(j+1)))) true)) id=some (.row .s (spl l (0+j) (sub l (0+(j+1)) (l.length-(j+1)))) true):=Zex hr
 have hL:=Ze0 hj
 have c7:(0:Int)≤((j+(l.length-(j+1)):Nat):Int)∧((j+(l.length-(j+1)):Nat):Int)≤(l.length:Int)∧(l.length:Int)≤((l.length:Nat):Int):=by omega
 have a4:0+(j+(l.length-(j+1)))+(l.length-(j+(l.length-(j+1))))≤(spl l (0+j) (sub l (0+(j+1)) (l.length-(j+1)))).length:=by rw[hL];omega
 refine Zae ?_
 refine Zab ?_
 refine Zaf ?_
 refine Zae ?_
 iterate 5 refine Zab ?_
 refine Zac rfl (ZoG rfl rfl rfl rfl hr rfl rfl rfl rfl c3 ?_)
 refine Zaa rfl rfl ?_
 refine Zaf ?_
 refine Zae ?_
 iterate 3 refine Zab ?_
 refine Zaf ?_
 refine brF h1 ?_
 refine Zae ?_
 iterate 3 refine Zab ?_
 refine Zaf ?_
 refine Zae ?_
 iterate 2 refine Zab ?_
 refine Zac rfl (Zf9 rfl rfl rfl rfl hr rfl rfl c5 ?_)
 refine Zaa rfl rfl ?_
 iterate 2 refine Zab ?_
 refine Zac rfl (ZgH rfl rfl rfl rfl hr rfl rfl c6 ?_)
 refine Zaa rfl rfl ?_
 refine Zac rfl (ZiP rfl rfl rfl rfl rfl rfl rfl rfl rfl hr hr a1 a2 a3 ?_)
 refine Zaa rfl rfl ?_
 refine Zab ?_
 refine Zaf ?_
 refine Zae ?_
 iterate 4 refine Zab ?_
 refine Zac rfl (ZgO rfl rfl rfl rfl hr2 rfl rfl rfl c7 ?_)
 refine Zaa rfl rfl ?_
 refine Zac rfl (ZeK rfl rfl rfl rfl rfl rfl rfl hr2 a4 ?_)
 refine Zar rfl ?_
 refine Zaf ?_
 refine Zae ?_
 iterate 2 refine Zab ?_
 refine Zaf ?_
 refine⟨rfl,_,List.set_set .., ?_,ZdB hj⟩
 refine(Zgs ?_).trans hL
 rw[List.length_replicate];exact a4
theorem ZuF (l:List Txt) (hl:l.length≤1000):ImpOK Tryd.prog Zaw 20 [.v (.l .s) l] (fun V hp sf=>V= .ref 0 0 l.length none∧hp=[.row .s l true]∧sf=true):=by
 refine Zcj (fn:=Tryd.f20) (code:=Za0 Tryd.f20) Zao (by kernel_rfl) Tryd.func20 (by kernel_rfl) (Nat.le_of_ble_eq_true (by kernel_rfl)) ?_
 refine And.intro (fun h=>And.intro (fun _=> ?_) (fun h=>nomatch h)) (And.intro (fun h=>nomatch h) (fun _=> ?_))
 ·subst h
  refine⟨.ref 0 0 0 none,[.row .s [] true], ?_,rfl,rfl,rfl,rfl⟩
  refine Zbm rfl rfl ?_ ?_
  ·exact⟨⟨rfl,rfl,rfl⟩,trivial⟩
  ·exact⟨rfl,trivial⟩
 ·cases l with
  |nil=>
   refine And.intro (Nat.zero_le _) ?_
   refine⟨.ref 0 0 0 none,[.row .s [] true], ?_,rfl,rfl,rfl,rfl⟩
   refine Zbm rfl rfl ?_ ?_
   ·exact⟨⟨rfl,rfl,rfl⟩,trivial⟩
   ·exact⟨⟨rfl,fun _=>rfl⟩,trivial⟩
  |cons x r=>
   refine And.intro (Nat.zero_le _) ?_
   refine And.intro (show(0+(r.length+1))*16≤140737488355328 by rw[List.length_cons]at hl;omega) ?_
   refine⟨.ref 0 0 (r.length+1) none,[.row .s (x::r) true], ?_,rfl,rfl,rfl,rfl⟩
   refine Zbm rfl rfl ?_ ?_
   ·have e1:r.length+1=0+(r.length+1):=(Nat.zero_add _).symm
    exact⟨⟨rfl,e1,e1⟩,trivial⟩
   ·exact⟨⟨rfl,fun _=>rfl⟩,trivial⟩
end Go.Proofs.YtgngdcpglnfkeaaDoor
