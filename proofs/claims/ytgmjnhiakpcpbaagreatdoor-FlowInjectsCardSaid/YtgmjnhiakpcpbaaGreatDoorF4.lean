/-
 The law FlowInjects: the loop over nodes, its whole. (Printed by tools/genlawf.py.)
-/
import Derived.Test.YtgmjnhiakpcpbaaGreatDoorF3
import Derived.Test.YtgmjnhiakpcpbaaGreatDoorEI
set_option linter.constructorNameAsVariable false
set_option linter.unusedSimpArgs false
set_option linter.unusedVariables false
namespace Go.Proofs.YtgmjnhiakpcpbaaGreatDoor
open Go.Am Go.Tx Ne
set_option maxRecDepth 100000
def Zn5 (b:Bool):Int:=bif b then 4 else 0
theorem Zro {l:List Int} {i:Nat} {x:Int} (h:l[i]? =some x):(l.take (i+1)).any ZbE=((l.take i).any ZbE||ZbE x):=by
 rw[ZbR h,List.any_append];simp
theorem Zuj {n:Ne.Net} {g s:List Int} (hf:Fine n) (h1:Zl5 n.gens g=true) (h2:Zo5 n.stores s=true) (hg:g.length=n.gens.length) (hs:s.length=n.stores.length):Bd (itG n.gens g)∧Bd (itS n.stores s)∧Bd (itL n.loads):=by
 refine⟨fun q hq=> ?_,fun q hq=> ?_,fun q hq=> ?_⟩
 ·obtain⟨i,hi⟩:=List.mem_iff_getElem?.1 hq
  have hl:=(List.getElem?_eq_some_iff.1 hi).1
  rw[itG,List.length_zipWith]at hl
  obtain⟨x,gx0,_⟩:=ZbU (l:=n.gens) (i:=i) (by omega)
  obtain⟨p,gp0,_⟩:=ZbU (l:=g) (i:=i) (by omega)
  have hz:(itG n.gens g)[i]? =some (x.2.1,p):=Ze4 (f:=fun(g:Ge) (x:Int)=>(g.2.1,x)) gx0 gp0
  rw[hz]at hi
  cases hi
  have ok:okG x p=true:=List.all_eq_true.1 h1 _ (List.mem_of_getElem? (Ze4 (f:=okG) gx0 gp0))
  obtain⟨_,_,hbad⟩:=ZpY hf (List.mem_of_getElem? gx0)
  have hfit:=Zpp hbad
  unfold okG at ok
  show-1000000≤p∧p≤1000000
  by_cases h0:p=0
  ·omega
  ·rw[decide_eq_false h0,cond_false]at ok
   by_cases h3:p<x.2.2.1
   ·rw[decide_eq_true h3]at ok;cases ok
   ·rw[decide_eq_false h3,cond_false]at ok
    have: ¬p>x.2.2.2.1:=by simpa using ok
    omega
 ·obtain⟨i,hi⟩:=List.mem_iff_getElem?.1 hq
  have hl:=(List.getElem?_eq_some_iff.1 hi).1
  rw[itS,List.length_zipWith]at hl
  obtain⟨x,gx0,_⟩:=ZbU (l:=n.stores) (i:=i) (by omega)
  obtain⟨p,gp0,_⟩:=ZbU (l:=s) (i:=i) (by omega)
  have hz:(itS n.stores s)[i]? =some (x.2.1,p):=Ze4 (f:=fun(g:Ge) (x:Int)=>(g.2.1,x)) gx0 gp0
  rw[hz]at hi
  cases hi
  have ok:okS x p=true:=List.all_eq_true.1 h2 _ (List.mem_of_getElem? (Ze4 (f:=okS) gx0 gp0))
  obtain⟨_,_,hbad⟩:=Zo1 hf (List.mem_of_getElem? gx0)
  have hfit:=Zou hbad
  unfold okS at ok
  show-1000000≤p∧p≤1000000
  by_cases h3:p< -x.2.2.1
  ·rw[decide_eq_true h3]at ok;cases ok
  ·rw[decide_eq_false h3,cond_false]at ok
   have: ¬p>x.2.2.2.1:=by simpa using ok
   omega
 ·obtain⟨x,hx,rfl⟩:=List.mem_map.1 hq
  obtain⟨_,_,hbad⟩:=Zqc hf hx
  have hfit:=ZoA hbad
  show-1000000≤ -x.2.2∧ -x.2.2≤1000000
  omega
theorem ZpD {k:Nat} {ac ac':List Int} {x:Int} (e:ac'=ac++ [x]):some (SV.ref k 0 (ac.length+1) none)=some (SV.ref k 0 ac'.length none):=by
 rw[e,List.length_append];rfl
def zN (n:Ne.Net) (g s:List Int) (o:Option (List Int)) (e0 w:Int) (k i:Nat):TM:=[(1, .v (.l I64) g),(2, .v (.l I64) s),(3, .ptr 0 0 0),(7,Zid o),(8, .v (.i .i64) e0),(9, .v (.i .i64) w),(10, .ref 1 0 k none),(118, .v (.l .s) n.nodes),(119,nt n.nodes.length),(120,nt i)]
abbrev Za6 (n:Ne.Net) (g s:List Int):List Int:=n.nodes.map (ZaT (ZhP n g s))
set_option maxHeartbeats 32000000 in
theorem ZoZ (n:Ne.Net) (g s:List Int) (o:Option (List Int)) (e0:Int) (hf:Fine n) (hg:g.length=n.gens.length) (hs:s.length=n.stores.length) (hk:Zl5 n.gens g=true) (hk2:Zo5 n.stores s=true):
 LoopOK Tryz.prog ZaO 0 ⟨4,0,206⟩ (Zbd Tryz.f4 23) (zN n g s o e0 0 0 0) [.cell (ZbD n) true, .row I64 [] true]
 (fun e tm hp'=>e= .exit 4∧Ent 0 tm hp' [(1, .v (.l I64) g),(2, .v (.l I64) s),(3, .ptr 0 0 0),(7,Zid o),(8, .v (.i .i64) e0),(9, .v (.i .i64) (Zn5 ((Za6 n g s).any ZbE))),(10, .ref 1 0 (Za6 n g s).length none)] [.cell (ZbD n) true, .row I64 (Za6 n g s) true]):=by
 obtain⟨b1,b2,b3,b4⟩:=ZbP hf.big
 obtain⟨c1,c2,c3⟩:=Zuj hf hk hk2 hg hs
 have lG:(itG n.gens g).length≤10:=by rw[itG,List.length_zipWith];omega
 have lS:(itS n.stores s).length≤4:=by rw[itS,List.length_zipWith];omega
 have hlen:(Za6 n g s).length=n.nodes.length:=List.length_map ..
 refine ZaH Zaw rfl (fun i=>zN n g s o e0 (Zn5 (((Za6 n g s).take i).any ZbE)) ((Za6 n g s).take i).length i) (fun i=> [.cell (ZbD n) true, .row I64 ((Za6 n g s).take i) true]) (fun i=>i≤n.nodes.length) (fun i=>n.nodes.length-i) ?_ 0 (Nat.zero_le _) ZaW
 rintro i hi
 cases h1:decide ((i:Int)<(n.nodes.length:Int))with
 |false=>
  have e:i=n.nodes.length:=by have:=of_decide_eq_false h1;omega
  have et:(Za6 n g s).take i=Za6 n g s:=List.take_of_length_le (by omega)
  refine Zae ?_
  refine Zab ?_
  refine Zad ?_
  refine brF h1 ?_
  refine⟨rfl, ?_⟩
  rw[et]
  exact Zah ⟨rfl,rfl,rfl,rfl,rfl,rfl,rfl,trivial⟩
 |true=>
  have hlt:i<n.nodes.length:=by have:=of_decide_eq_true h1;omega
  obtain⟨x,gx0,gx⟩:=ZbU hlt
  have gF:(Za6 n g s)[i]? =some (ZaT (ZhP n g s) x):=by rw[List.getElem?_map,gx0];rfl
  have hT:=ZbR gF
  have hA:=Zro gF
  have hkk:((Za6 n g s).take i).length≤100:=by rw[List.length_take];omega
  have q1:=Zr3 n g s o e0 (Zn5 (((Za6 n g s).take i).any ZbE)) x ((Za6 n g s).take i).length i ((Za6 n g s).take i) [] (Nat.zero_le _) hf hg c1
  have q2:=Zs2 n g s o e0 (Zn5 (((Za6 n g s).take i).any ZbE)) x ((Za6 n g s).take i).length i ((Za6 n g s).take i) ([]++itG n.gens g) (by rw[List.nil_append];omega) hf hs (Zox c1 c2)
  have q3:=Zr7 n g s o e0 (Zn5 (((Za6 n g s).take i).any ZbE)) x ((Za6 n g s).take i).length i ((Za6 n g s).take i) ([]++itG n.gens g++itS n.stores s) (by rw[List.length_append,List.nil_append];omega) hf (Zox (Zox c1 c2) c3)
  obtain⟨ac,ea⟩: ∃ac,(Za6 n g s).take i=ac:=⟨_,rfl⟩
  obtain⟨v,ev⟩: ∃v,ZaT (ZhP n g s) x=v:=⟨_,rfl⟩
  have ev3:ZaT ([]++itG n.gens g++itS n.stores s++itL n.loads) x=v:=ev
  rw[ea,ev]at hT
  rw[ea,ev]at hA
  rw[ea]at hkk q1 q2 q3
  rw[ev3]at q3
  rw[ea]
  have zC:(ac.length+1)*8≤140737488355328:=by omega
  refine Zae ?_
  refine Zab ?_
  refine Zad ?_
  refine brT h1 ?_
  refine Zae ?_
  refine ZaY rfl (fun _=>rfl) (Int.natCast_nonneg i) gx rfl rfl ?_
  iterate 2 refine Zab ?_
  refine Zad ?_
  refine Zae ?_
  refine Zab ?_
  refine Zad ?_
  refine Zae ?_
  refine Zab ?_
  refine Zal rfl (fun _=>rfl) rfl rfl rfl ?_
  iterate 2 refine Zab ?_
  refine Zad ?_
  refine(q1.ent ?_).through ?_
  ·exact Zah ⟨rfl,rfl,rfl,rfl,rfl,rfl,rfl,rfl,rfl,rfl,rfl,rfl,rfl,rfl,rfl,trivial⟩
  rintro _ tm hp' ⟨rfl,hE⟩
  refine⟨_,_,hE, ?_⟩
  show wp _ _ _ _ _ _ _ _ _
  refine Zae ?_
  refine Zab ?_
  refine Zal rfl (fun _=>rfl) rfl rfl rfl ?_
  iterate 2 refine Zab ?_
  refine Zad ?_
  refine(q2.ent ?_).through ?_
  ·exact Zah ⟨rfl,rfl,rfl,rfl,rfl,rfl,rfl,rfl,rfl,rfl,rfl,rfl,rfl,rfl,rfl,trivial⟩
  rintro _ tm hp' ⟨rfl,hE⟩
  refine⟨_,_,hE, ?_⟩
  show wp _ _ _ _ _ _ _ _ _
  refine Zae ?_
  refine Zab ?_
  refine Zal rfl (fun _=>rfl) rfl rfl rfl ?_
  iterate 2 refine Zab ?_
  refine Zad ?_
  refine(q3.ent ?_).through ?_
  ·exact Zah ⟨rfl,rfl,rfl,rfl,rfl,rfl,rfl,rfl,rfl,rfl,rfl,rfl,rfl,rfl,rfl,trivial⟩
  rintro _ tm hp' ⟨rfl,hE⟩
  refine⟨_,_,hE, ?_⟩
  show wp _ _ _ _ _ _ _ _ _
  have fin: ∀ (W:Int) (tm:TM) (hp:List SM),W=Zn5 (((Za6 n g s).take (i+1)).any ZbE)→nth hp 0=some (.cell (ZbD n) true)→nth hp 3=some (.row I64 (ac++ [v]) true)→ZrW (fun j=> [0,3].getD j 0) 2 tm (zN n g s o e0 W (ac++ [v]).length (i+1))→Ent 0 tm hp (zN n g s o e0 (Zn5 (((Za6 n g s).take (i+1)).any ZbE)) ((Za6 n g s).take (i+1)).length (i+1)) [.cell (ZbD n) true, .row I64 ((Za6 n g s).take (i+1)) true]:=fun W tm hp hW h0 h3 hs=>by
   rw[←hW,hT]
   exact ZaV [0,3] ⟨h0,rfl,h3,rfl,trivial⟩ (by decide) hs
  cases h3:decide (v< -100000)with
  |true=>
   have ok:ZbE v=true:=by rw[ZbE,h3];rfl
   have hW:(4:Int)=Zn5 (((Za6 n g s).take (i+1)).any ZbE):=by rw[hA,ok,Bool.or_true];rfl
   refine Zae ?_
   iterate 3 refine Zab ?_
   refine Zag h3 ?_
   refine Zag h3 ?_
   refine Zaq h3 ?_
   refine Zad ?_
   refine brT rfl ?_
   refine Zae ?_
   refine Zab ?_
   refine Zad ?_
   refine Zae ?_
   iterate 2 refine Zab ?_
   refine Zbs ?_
   refine Zaf rfl (Zi5 rfl rfl rfl rfl rfl rfl rfl rfl rfl rfl (ZeO (a:=[.cell (ZbD n) true, .row I64 ac true])) rfl zC ?_)
   refine Zac rfl rfl ?_
   refine Zab ?_
   refine Zad ?_
   refine Zae ?_
   iterate 2 refine Zab ?_
   refine Zad ?_
   refine⟨i+1,hlt,by show n.nodes.length-(i+1)<n.nodes.length-i;omega, ?_⟩
   exact fin 4 _ _ hW rfl rfl ⟨rfl,Zas,rfl,Zas,rfl,ZaL (by show 0<2;omega),congrArg some (Zco o).symm,Zcl o,rfl,Zas,rfl,Zas,ZpD rfl,Zbm (by show 1<2;omega),rfl,Zas,rfl,Zas,congrArg (fun x=>some (SV.v (.i .i64) x)) (Za5 (by omega)),Zas,trivial⟩
  |false=>
   cases h4:decide (v>100000)with
   |true=>
    have ok:ZbE v=true:=by rw[ZbE,h3,h4];rfl
    have hW:(4:Int)=Zn5 (((Za6 n g s).take (i+1)).any ZbE):=by rw[hA,ok,Bool.or_true];rfl
    refine Zae ?_
    iterate 3 refine Zab ?_
    refine Zaa h3 ?_
    refine Zaa h3 ?_
    refine Zap h3 ?_
    refine Zad ?_
    refine brT h4 ?_
    refine Zae ?_
    refine Zab ?_
    refine Zad ?_
    refine Zae ?_
    iterate 2 refine Zab ?_
    refine Zbs ?_
    refine Zaf rfl (Zi5 rfl rfl rfl rfl rfl rfl rfl rfl rfl rfl (ZeO (a:=[.cell (ZbD n) true, .row I64 ac true])) rfl zC ?_)
    refine Zac rfl rfl ?_
    refine Zab ?_
    refine Zad ?_
    refine Zae ?_
    iterate 2 refine Zab ?_
    refine Zad ?_
    refine⟨i+1,hlt,by show n.nodes.length-(i+1)<n.nodes.length-i;omega, ?_⟩
    exact fin 4 _ _ hW rfl rfl ⟨rfl,Zas,rfl,Zas,rfl,ZaL (by show 0<2;omega),congrArg some (Zco o).symm,Zcl o,rfl,Zas,rfl,Zas,ZpD rfl,Zbm (by show 1<2;omega),rfl,Zas,rfl,Zas,congrArg (fun x=>some (SV.v (.i .i64) x)) (Za5 (by omega)),Zas,trivial⟩
   |false=>
    have ok:ZbE v=false:=by rw[ZbE,h3,h4];rfl
    have hW:Zn5 (ac.any ZbE)=Zn5 (((Za6 n g s).take (i+1)).any ZbE):=by rw[hA,ok,Bool.or_false]
    refine Zae ?_
    iterate 3 refine Zab ?_
    refine Zaa h3 ?_
    refine Zaa h3 ?_
    refine Zap h3 ?_
    refine Zad ?_
    refine brF h4 ?_
    refine Zae ?_
    iterate 2 refine Zab ?_
    refine Zbs ?_
    refine Zaf rfl (Zi5 rfl rfl rfl rfl rfl rfl rfl rfl rfl rfl (ZeO (a:=[.cell (ZbD n) true, .row I64 ac true])) rfl zC ?_)
    refine Zac rfl rfl ?_
    refine Zab ?_
    refine Zad ?_
    refine Zae ?_
    iterate 2 refine Zab ?_
    refine Zad ?_
    refine⟨i+1,hlt,by show n.nodes.length-(i+1)<n.nodes.length-i;omega, ?_⟩
    exact fin (Zn5 (ac.any ZbE)) _ _ hW rfl rfl ⟨rfl,Zas,rfl,Zas,rfl,ZaL (by show 0<2;omega),congrArg some (Zco o).symm,Zcl o,rfl,Zas,rfl,Zas,ZpD rfl,Zbm (by show 1<2;omega),rfl,Zas,rfl,Zas,congrArg (fun x=>some (SV.v (.i .i64) x)) (Za5 (by omega)),Zas,trivial⟩
end Go.Proofs.YtgmjnhiakpcpbaaGreatDoor
