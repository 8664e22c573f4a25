/-
 The reference's Minor and Det.
-/
import Derived.Test.YtdnodlkdndfplaaGreatDoorMK
set_option linter.constructorNameAsVariable false
set_option linter.unusedSimpArgs false
set_option linter.unusedVariables false
namespace Go.Proofs.YtdnodlkdndfplaaGreatDoor
open Go.Am Go.Tx Dv Go.Lib La
set_option maxRecDepth 100000
def Zj7 {α:Type} (k:Nat) (r:List α):List α:=r.take k++r.drop (k+1)
theorem ZvF {α β:Type} (f:α→β) (k:Nat) (r:List α):Zj7 k (r.map f)=(Zj7 k r).map f:=by
 rw[Zj7,Zj7,List.map_append,List.map_take,List.map_drop]
theorem Zvs {α:Type} {k W:Nat} {r:List α} (h:r.length=W+1) (hk:k<W+1):(Zj7 k r).length=W:=by
 rw[Zj7,List.length_append,List.length_take,List.length_drop];omega
def ZlI (m:List (List (List UInt8))) (k i:Nat):List (List (List UInt8)):=((m.take i).drop 1).map (Zj7 k)
theorem Zkh (m:List (List (List UInt8))) (k i:Nat) (hi:i≤m.length):(ZlI m k i).length=i-1:=by
 rw[ZlI,List.length_map,List.length_drop,List.length_take];omega
theorem Zib {m:List (List (List UInt8))} {k:Nat} (i:Nat) (hi:i≤1):ZlI m k i=[]:=List.length_eq_zero_iff.1 (by rw[ZlI,List.length_map,List.length_drop,List.length_take];omega)
theorem Zs6 {m:List (List (List UInt8))} {k i:Nat} {r:List (List UInt8)} (hr:m[i]? =some r) (hi:i≠0):ZlI m k (i+1)=ZlI m k i++ [Zj7 k r]:=by
 have hlt:=(List.getElem?_eq_some_iff.1 hr).1
 rw[ZlI,List.take_add_one,hr,ZlI,List.drop_append_of_le_length (by rw[List.length_take];omega),List.map_append]
 rfl
theorem ZsT (m:List (List (List UInt8))) (k:Nat):ZlI m k m.length=(m.drop 1).map (Zj7 k):=by rw[ZlI,List.take_length]
set_option maxHeartbeats 8000000 in
theorem Zuk (m:List (List (List UInt8))) (k:Nat) (hm:m.length≤1000) (hr: ∀r∈m,k<r.length∧r.length≤1000):PureOK Tryz.prog Zaw 75 [.v (.l (.l .s)) m,nt 0,nt k] (fun V=>V= .v (.l (.l .s)) ((m.drop 1).map (Zj7 k))):=by
 refine Zak Zal Tryz.func75 ?_
 repeat (first|refine Zag ?_|refine Zae ?_|refine Zad ?_)
 first|refine Zab (Zaa (id:=0) rfl ?_)|refine Zab (Zab (Zaa (id:=0) rfl ?_))|refine Zaa (id:=0) rfl ?_|refine Zab (Zac rfl (Zab (Zaa (id:=0) rfl ?_)))|refine Zab (Zac rfl (Zab (Zab (Zaa (id:=0) rfl ?_))))|refine Zac rfl (Zab (Zab (Zaa (id:=0) rfl ?_)))|refine Zac rfl (Zab (Zaa (id:=0) rfl ?_))|refine Zab (Zac rfl (Zaa (id:=0) rfl ?_))|refine Zac rfl (Zaa (id:=0) rfl ?_)
 refine Zaf rfl (fun _=>rfl) rfl rfl ?_
 refine Zah ?_
 repeat (first|refine Zae ?_|refine Zad ?_)
 repeat (first|refine Zag ?_|refine Zae ?_|refine Zad ?_)
 first|refine Zab (Zaa (id:=1) rfl ?_)|refine Zab (Zab (Zaa (id:=1) rfl ?_))|refine Zaa (id:=1) rfl ?_|refine Zab (Zac rfl (Zab (Zaa (id:=1) rfl ?_)))|refine Zab (Zac rfl (Zab (Zab (Zaa (id:=1) rfl ?_))))|refine Zac rfl (Zab (Zab (Zaa (id:=1) rfl ?_)))|refine Zac rfl (Zab (Zaa (id:=1) rfl ?_))|refine Zab (Zac rfl (Zaa (id:=1) rfl ?_))|refine Zac rfl (Zaa (id:=1) rfl ?_)
 refine Zaf rfl (fun _=>rfl) rfl rfl ?_
 refine Zah ?_
 repeat (first|refine Zae ?_|refine Zad ?_)
 repeat (first|refine Zag ?_|refine Zae ?_|refine Zad ?_)
 first|refine Zab (Zaa (id:=2) rfl ?_)|refine Zab (Zab (Zaa (id:=2) rfl ?_))|refine Zaa (id:=2) rfl ?_|refine Zab (Zac rfl (Zab (Zaa (id:=2) rfl ?_)))|refine Zab (Zac rfl (Zab (Zab (Zaa (id:=2) rfl ?_))))|refine Zac rfl (Zab (Zab (Zaa (id:=2) rfl ?_)))|refine Zac rfl (Zab (Zaa (id:=2) rfl ?_))|refine Zab (Zac rfl (Zaa (id:=2) rfl ?_))|refine Zac rfl (Zaa (id:=2) rfl ?_)
 refine Zaf rfl (fun _=>rfl) rfl rfl ?_
 refine Zaf rfl (fun _=>rfl) rfl rfl ?_
 refine Zaf rfl (fun _=>rfl) rfl rfl ?_
 refine Zah ?_
 repeat (first|refine Zae ?_|refine Zad ?_)
 refine Zaz Zal rfl (fun(i:Nat)=> [(1,nt 0),(2,nt k),(7, .ref 0 0 (i-1) none),(10, .v (.l (.l .s)) m),(11,nt m.length),(12,nt i)]) (fun i=> [.row (.l .s) (ZlI m k i) true]) (fun i=>i≤m.length) (fun i=>m.length-i) ?_ 0 (Nat.zero_le _) ?_
 ·intro i hi
  cases h1:decide ((i:Int)<(m.length:Int))with
  |false=>
   repeat (first|refine Zag ?_|refine Zae ?_|refine Zad ?_)
   first|refine Zab (Zaa (id:=3) rfl ?_)|refine Zab (Zab (Zaa (id:=3) rfl ?_))|refine Zaa (id:=3) rfl ?_|refine Zab (Zac rfl (Zab (Zaa (id:=3) rfl ?_)))|refine Zab (Zac rfl (Zab (Zab (Zaa (id:=3) rfl ?_))))|refine Zac rfl (Zab (Zab (Zaa (id:=3) rfl ?_)))|refine Zac rfl (Zab (Zaa (id:=3) rfl ?_))|refine Zab (Zac rfl (Zaa (id:=3) rfl ?_))|refine Zac rfl (Zaa (id:=3) rfl ?_)
   refine Zaf rfl (fun _=>rfl) rfl rfl ?_
   refine Zah ?_
   repeat (first|refine Zae ?_|refine Zad ?_)
   refine And.intro (fun h=>by first|(cases h;done)|exact(nf h h1).elim) (fun _=> ?_)
   have he:i=m.length:=by have:=of_decide_eq_false h1;omega
   subst he
   repeat (first|refine Zag ?_|refine Zae ?_|refine Zad ?_)
   first|refine Zab (Zaa (id:=8) rfl ?_)|refine Zab (Zab (Zaa (id:=8) rfl ?_))|refine Zaa (id:=8) rfl ?_|refine Zab (Zac rfl (Zab (Zaa (id:=8) rfl ?_)))|refine Zab (Zac rfl (Zab (Zab (Zaa (id:=8) rfl ?_))))|refine Zac rfl (Zab (Zab (Zaa (id:=8) rfl ?_)))|refine Zac rfl (Zab (Zaa (id:=8) rfl ?_))|refine Zab (Zac rfl (Zaa (id:=8) rfl ?_))|refine Zac rfl (Zaa (id:=8) rfl ?_)
   refine Zaf rfl (fun _=>rfl) rfl rfl ?_
   refine Zaf rfl (fun _=>rfl) rfl rfl ?_
   refine Zah ?_
   repeat (first|refine Zae ?_|refine Zad ?_)
   have e:sub (ZlI m k m.length) 0 (m.length-1)=(m.drop 1).map (Zj7 k):=by
    rw[sub,List.drop_zero,List.take_of_length_le (by rw[Zkh _ _ _ (Nat.le_refl _)];exact Nat.le_refl _),ZsT]
   exact⟨by rw[Zkh _ _ _ (Nat.le_refl _)];omega,congrArg (fun x=>SV.v (.l (.l .s)) x) e⟩
  |true=>
   have hlt:i<m.length:=by have:=of_decide_eq_true h1;omega
   have gx:m[(i:Int).toNat]? =some m[i]:=by rw[Int.toNat_natCast];exact List.getElem?_eq_getElem hlt
   obtain⟨hkr,hrl⟩:=hr _ (List.getElem_mem hlt)
   have hr0:m[i]? =some m[i]:=List.getElem?_eq_getElem hlt
   obtain⟨r,er⟩: ∃x,m[i]=x:=⟨_,rfl⟩
   rw[er]at gx hkr hrl hr0
   have wi:IntKind.i64.wrap ((i:Int)+1)=((i+1:Nat):Int):=Zao (by omega) (by omega)
   have wk:IntKind.i64.wrap ((k:Int)+1)=((k+1:Nat):Int):=Zao (by omega) (by omega)
   repeat (first|refine Zag ?_|refine Zae ?_|refine Zad ?_)
   first|refine Zab (Zaa (id:=3) rfl ?_)|refine Zab (Zab (Zaa (id:=3) rfl ?_))|refine Zaa (id:=3) rfl ?_|refine Zab (Zac rfl (Zab (Zaa (id:=3) rfl ?_)))|refine Zab (Zac rfl (Zab (Zab (Zaa (id:=3) rfl ?_))))|refine Zac rfl (Zab (Zab (Zaa (id:=3) rfl ?_)))|refine Zac rfl (Zab (Zaa (id:=3) rfl ?_))|refine Zab (Zac rfl (Zaa (id:=3) rfl ?_))|refine Zac rfl (Zaa (id:=3) rfl ?_)
   refine Zaf rfl (fun _=>rfl) rfl rfl ?_
   refine Zah ?_
   repeat (first|refine Zae ?_|refine Zad ?_)
   refine And.intro (fun _=> ?_) (fun h=>by first|(cases h;done)|exact(nf h1 h).elim)
   repeat (first|refine Zag ?_|refine Zae ?_|refine Zad ?_)
   first|refine Zab (Zaa (id:=4) rfl ?_)|refine Zab (Zab (Zaa (id:=4) rfl ?_))|refine Zaa (id:=4) rfl ?_|refine Zab (Zac rfl (Zab (Zaa (id:=4) rfl ?_)))|refine Zab (Zac rfl (Zab (Zab (Zaa (id:=4) rfl ?_))))|refine Zac rfl (Zab (Zab (Zaa (id:=4) rfl ?_)))|refine Zac rfl (Zab (Zaa (id:=4) rfl ?_))|refine Zab (Zac rfl (Zaa (id:=4) rfl ?_))|refine Zac rfl (Zaa (id:=4) rfl ?_)
   refine Zaf rfl (fun _=>rfl) rfl rfl ?_
   refine ZmH rfl (fun _=>rfl) (Int.natCast_nonneg i) gx rfl rfl ?_
   refine Zaf rfl (fun _=>rfl) rfl rfl ?_
   refine Zaf rfl (fun _=>rfl) rfl rfl ?_
   refine Zaf rfl (fun _=>rfl) rfl rfl ?_
   refine Zah ?_
   repeat (first|refine Zae ?_|refine Zad ?_)
   cases h2:decide (i=0)with
   |true=>
    have e0:i=0:=of_decide_eq_true h2
    subst e0
    repeat (first|refine Zag ?_|refine Zae ?_|refine Zad ?_)
    first|refine Zab (Zaa (id:=5) rfl ?_)|refine Zab (Zab (Zaa (id:=5) rfl ?_))|refine Zaa (id:=5) rfl ?_|refine Zab (Zac rfl (Zab (Zaa (id:=5) rfl ?_)))|refine Zab (Zac rfl (Zab (Zab (Zaa (id:=5) rfl ?_))))|refine Zac rfl (Zab (Zab (Zaa (id:=5) rfl ?_)))|refine Zac rfl (Zab (Zaa (id:=5) rfl ?_))|refine Zab (Zac rfl (Zaa (id:=5) rfl ?_))|refine Zac rfl (Zaa (id:=5) rfl ?_)
    refine Zaf rfl (fun _=>rfl) rfl rfl ?_
    refine Zaf rfl (fun _=>rfl) rfl rfl ?_
    refine Zaf rfl (fun _=>rfl) rfl rfl ?_
    refine Zah ?_
    repeat (first|refine Zae ?_|refine Zad ?_)
    refine And.intro (fun h=>nomatch h) (fun _=> ?_)
    repeat (first|refine Zag ?_|refine Zae ?_|refine Zad ?_)
    first|refine Zab (Zaa (id:=7) rfl ?_)|refine Zab (Zab (Zaa (id:=7) rfl ?_))|refine Zaa (id:=7) rfl ?_|refine Zab (Zac rfl (Zab (Zaa (id:=7) rfl ?_)))|refine Zab (Zac rfl (Zab (Zab (Zaa (id:=7) rfl ?_))))|refine Zac rfl (Zab (Zab (Zaa (id:=7) rfl ?_)))|refine Zac rfl (Zab (Zaa (id:=7) rfl ?_))|refine Zab (Zac rfl (Zaa (id:=7) rfl ?_))|refine Zac rfl (Zaa (id:=7) rfl ?_)
    refine Zaf rfl (fun _=>rfl) rfl rfl ?_
    refine Zaf rfl (fun _=>rfl) rfl rfl ?_
    refine Zah ?_
    repeat (first|refine Zae ?_|refine Zad ?_)
    refine⟨1,hlt,by show m.length-1<m.length-0;omega, ?_⟩
    show Ent 0 _ [SM.row (.l .s) (ZlI m k 0) true] _ [SM.row (.l .s) (ZlI m k 1) true]
    rw[Zib 0 (by decide),Zib 1 (by decide)]
    exact ZaO ⟨rfl,rfl,rfl,rfl,rfl,rfl,trivial⟩
   |false=>
    have hi0:i≠0:=of_decide_eq_false h2
    have h3:(!decide ((i:Int)=(0:Int)))=true:=by rw[Bool.not_eq_true',decide_eq_false_iff_not];omega
    repeat (first|refine Zag ?_|refine Zae ?_|refine Zad ?_)
    first|refine Zab (Zaa (id:=5) rfl ?_)|refine Zab (Zab (Zaa (id:=5) rfl ?_))|refine Zaa (id:=5) rfl ?_|refine Zab (Zac rfl (Zab (Zaa (id:=5) rfl ?_)))|refine Zab (Zac rfl (Zab (Zab (Zaa (id:=5) rfl ?_))))|refine Zac rfl (Zab (Zab (Zaa (id:=5) rfl ?_)))|refine Zac rfl (Zab (Zaa (id:=5) rfl ?_))|refine Zab (Zac rfl (Zaa (id:=5) rfl ?_))|refine Zac rfl (Zaa (id:=5) rfl ?_)
    refine Zaf rfl (fun _=>rfl) rfl rfl ?_
    refine Zaf rfl (fun _=>rfl) rfl rfl ?_
    refine Zaf rfl (fun _=>rfl) rfl rfl ?_
    refine Zah ?_
    repeat (first|refine Zae ?_|refine Zad ?_)
    refine And.intro (fun _=> ?_) (fun h=>by first|(cases h;done)|exact(nf h3 h).elim)
    have ck:(0:Int)≤(k:Int)∧(k:Int)≤(r.length:Int):=by omega
    have ck1:(0:Int)≤IntKind.i64.wrap ((k:Int)+1)∧IntKind.i64.wrap ((k:Int)+1)≤(r.length:Int):=by rw[wk];omega
    have eA:r.take k=(r.take (k:Int).toNat).drop 0:=by rw[Int.toNat_natCast,List.drop_zero]
    have eB:r.drop (k+1)=(r.take r.length).drop (IntKind.i64.wrap ((k:Int)+1)).toNat:=by rw[wk,Int.toNat_natCast,List.take_length]
    have zA:(0+(r.take k).length)*16≤140737488355328:=by rw[List.length_take];omega
    have zB:(0+(r.take k).length+(r.drop (k+1)).length)*16≤140737488355328:=by rw[List.length_take,List.length_drop];omega
    have zC:(i-1+1)*24≤140737488355328:=by omega
    have ml:=Zkh m k i hi
    have xl:(([]++r.take k)++r.drop (k+1)).length=0+(r.take k).length+(r.drop (k+1)).length:=by rw[List.length_append,List.nil_append];omega
    have ne1:(0:Nat)≠1:=by decide
    have hne: ∀a:Nat,a=1∨2≤a→0≠a:=fun a h=>by omega
    have hni: ∀a b c d:Nat,2≤a→a≤b→(c=1∨2≤c)→(d=c∨a≤d)→0 ∉ [b,d]:=fun a b c d h1 h2 h3 h4=>by
     simp only[List.mem_cons,List.not_mem_nil,or_false];omega
    repeat (first|refine Zag ?_|refine Zae ?_|refine Zad ?_)
    first|refine Zab (ZbE (id:=6) rfl rfl rfl rfl ?_)|refine Zab (Zab (ZbE (id:=6) rfl rfl rfl rfl ?_))|refine ZbE (id:=6) rfl rfl rfl rfl ?_|refine Zab (Zac rfl (Zab (ZbE (id:=6) rfl rfl rfl rfl ?_)))|refine Zab (Zac rfl (Zab (Zab (ZbE (id:=6) rfl rfl rfl rfl ?_))))|refine Zac rfl (Zab (Zab (ZbE (id:=6) rfl rfl rfl rfl ?_)))|refine Zac rfl (Zab (ZbE (id:=6) rfl rfl rfl rfl ?_))|refine Zab (Zac rfl (ZbE (id:=6) rfl rfl rfl rfl ?_))|refine Zac rfl (ZbE (id:=6) rfl rfl rfl rfl ?_)
    refine ZlX rfl rfl rfl rfl rfl ?_
    refine Zd2 rfl rfl (opm (fun _=>rfl) rfl rfl ?_)
    refine Zd2 rfl rfl (opv (fun _=>rfl) rfl rfl ?_)
    refine Zd2 rfl rfl (opv (fun _=>rfl) rfl rfl ?_)
    refine Zd2 rfl rfl (opc (fun _=>rfl) ck rfl rfl ?_)
    refine ZlX rfl rfl rfl rfl rfl ?_
    refine ZlX rfl rfl rfl rfl rfl ?_
    refine Zxj rfl rfl (opv (fun _=>rfl) rfl rfl ?_)
    refine Zyj rfl rfl rfl (opc (fun _=>rfl) ck1 rfl rfl ?_)
    refine ZsK rfl rfl (Zq2 (ct:= .s) (l:=[]) (new:=r.take k) rfl rfl rfl rfl rfl rfl rfl rfl rfl rfl rfl (fun kk hk=>Zrs (eA▸hk)) zA (fun i1 H1 h1 a1 b1 c1=> ?_))
    refine ZdK rfl rfl ?_
    refine ZsK rfl rfl (Zq2 (ct:= .s) (new:=r.drop (k+1)) rfl rfl rfl rfl rfl rfl rfl rfl rfl h1 (by rw[List.nil_append,Nat.zero_add]) (fun kk hk=>Zrs (eB▸hk)) zB (fun i2 H2 h2 a2 b2 c2=> ?_))
    refine ZdK rfl rfl ?_
    refine Zd2 rfl rfl (opm (fun _=>rfl) rfl rfl ?_)
    refine ZsK rfl rfl (ZxP (ct:= .l .s) (l:=ZlI m k i) (x:=Zj7 k r) rfl rfl rfl rfl rfl rfl rfl rfl rfl (fun kk hk=>Zwv ZkG (Zku h2) xl hk) (by rw[Zux ZkG (Zku h2)];exact hni H1.length H2.length i1 i2 b1 b2 c1 c2) (Zku ((a2 0 (hne i1 c1) (Nat.lt_of_lt_of_le (Nat.zero_lt_succ 1) b1)).trans (a1 0 ne1 (Nat.zero_lt_succ 1)))) ml.symm zC (fun i3 H3 h3=> ?_))
    refine ZdK rfl rfl ?_
    refine Zd2 rfl rfl (opv (fun _=>rfl) rfl rfl ?_)
    refine Ztf ?_
    repeat (first|refine Zae ?_|refine Zad ?_)
    repeat (first|refine Zag ?_|refine Zae ?_|refine Zad ?_)
    first|refine Zab (Zaa (id:=7) rfl ?_)|refine Zab (Zab (Zaa (id:=7) rfl ?_))|refine Zaa (id:=7) rfl ?_|refine Zab (Zac rfl (Zab (Zaa (id:=7) rfl ?_)))|refine Zab (Zac rfl (Zab (Zab (Zaa (id:=7) rfl ?_))))|refine Zac rfl (Zab (Zab (Zaa (id:=7) rfl ?_)))|refine Zac rfl (Zab (Zaa (id:=7) rfl ?_))|refine Zab (Zac rfl (Zaa (id:=7) rfl ?_))|refine Zac rfl (Zaa (id:=7) rfl ?_)
    refine Zaf rfl (fun _=>rfl) rfl rfl ?_
    refine Zaf rfl (fun _=>rfl) rfl rfl ?_
    refine Zah ?_
    repeat (first|refine Zae ?_|refine Zad ?_)
    refine⟨i+1,hlt,by show m.length-(i+1)<m.length-i;omega, ?_⟩
    show Ent 0 _ H3 _ [SM.row (.l .s) (ZlI m k (i+1)) true]
    rw[Zs6 hr0 hi0]
    have e1:i-1+1=i:=by omega
    refine ZxL h3 rfl ⟨rfl,ZuG,rfl,ZuG,congrArg (fun x=>some (SV.ref i3 0 x none)) e1,ZtA Nat.zero_lt_one,rfl,ZuG,rfl,ZuG,congrArg (fun x=>some (SV.v (.i .i64) x)) wi,ZuG,trivial⟩
 ·show Ent 0 _ [] _ [SM.row (.l .s) (ZlI m k 0) true]
  rw[Zib 0 (by decide)]
  refine Ent.trans (tm1:=[(1,nt 0),(2,nt k),(7, .nils),(10, .v (.l (.l .s)) m),(11,nt m.length),(12,nt 0)]) (hp1:=[]) (ZaO ⟨rfl,rfl,rfl,rfl,rfl,rfl,trivial⟩) ?_
  refine ZuY (k:=7) (Nat.zero_le _) rfl (fun i V hi h=> ?_) rfl
  have hb:Nat.beq i 7=false:=by
   cases hb:Nat.beq i 7 with
   |true=>exact absurd (Nat.eq_of_beq_eq_true hb) hi
   |false=>rfl
  simp only[Zcu,hb]at h⊢
  exact h
end Go.Proofs.YtdnodlkdndfplaaGreatDoor
