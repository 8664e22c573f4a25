/-
 The law FlowInjects. (Printed by tools/genlawf.py.)
-/
import Derived.Test.YtgmjnhiakpcpbaaGreatDoorF2
import Derived.Test.YtgmjnhiakpcpbaaGreatDoorUA
set_option linter.constructorNameAsVariable false
set_option linter.unusedSimpArgs false
set_option linter.unusedVariables false
namespace Go.Proofs.YtgmjnhiakpcpbaaGreatDoor
open Go.Am Go.Tx Ne
set_option maxRecDepth 100000
theorem Zco {f:Nat→Nat} (o:Option (List Int)):rnV f (Zid o)=Zid o:=by cases o<;>rfl
theorem Zcl {n:Nat} (o:Option (List Int)): ∀id∈ZcZ (Zid o),id<n:=by cases o<;>exact fun _ h=>absurd h List.not_mem_nil
theorem ZlY {l:List Bool} {i:Nat} {b:Bool} (h:l[i]? =some b):(l.take (i+1)).all id=((l.take i).all id&&b):=by
 rw[ZbR h,List.all_append];simp
def Zh7 (b:Bool):Int:=bif b then 0 else 17
theorem geG {p a:Int} {b:Bool} (h:decide (p<a)=b):decide (p≥a)= !b:=by
 subst h
 by_cases h:p<a
 ·rw[decide_eq_true h,decide_eq_false (by omega)];rfl
 ·rw[decide_eq_false h,decide_eq_true (by omega)];rfl
theorem leG {p a:Int} {b:Bool} (h:decide (p>a)=b):decide (p≤a)= !b:=by
 subst h
 by_cases h:p>a
 ·rw[decide_eq_true h,decide_eq_false (by omega)];rfl
 ·rw[decide_eq_false h,decide_eq_true (by omega)];rfl
def zfG (n:Ne.Net) (g s:List Int) (o:Option (List Int)) (e0 w:Int) (i:Nat):TM:=[(1, .v (.l I64) g),(2, .v (.l I64) s),(3, .ptr 0 0 0),(7,Zid o),(8, .v (.i .i64) e0),(9, .v (.i .i64) w),(10, .nils),(56, .v (.l gCT) n.gens),(57,nt n.gens.length),(58,nt i)]
set_option maxHeartbeats 16000000 in
theorem ZlH (n:Ne.Net) (g s:List Int) (o:Option (List Int)) (e0:Int) (b0:Bool) (hf:Fine n) (hg:g.length=n.gens.length):
 LoopOK Tryz.prog ZaO 0 ⟨4,0,206⟩ (Zbd Tryz.f4 10) (zfG n g s o e0 (Zh7 b0) 0) [.cell (ZbD n) true]
 (fun e tm hp'=>e= .exit 0∧Ent 0 tm hp' [(1, .v (.l I64) g),(2, .v (.l I64) s),(3, .ptr 0 0 0),(7,Zid o),(8, .v (.i .i64) e0),(9, .v (.i .i64) (Zh7 (b0&&Zl5 n.gens g))),(10, .nils)] [.cell (ZbD n) true]):=by
 obtain⟨b1,b2,b3,b4⟩:=ZbP hf.big
 refine ZaH Zaw rfl (fun i=>zfG n g s o e0 (Zh7 (b0&&((List.zipWith okG n.gens g).take i).all id)) i) (fun _=> [.cell (ZbD n) true]) (fun i=>i≤n.gens.length) (fun i=>n.gens.length-i) ?_ 0 (Nat.zero_le _) ?_
 case refine_2=>
  have e0:b0=(b0&&((List.zipWith okG n.gens g).take 0).all id):=by rw[List.take_zero,List.all_nil,Bool.and_true]
  exact Zah ⟨rfl,rfl,rfl,rfl,rfl,congrArg (fun x=>some (SV.v (.i .i64) (Zh7 x))) e0,rfl,rfl,rfl,rfl,trivial⟩
 rintro i hi
 have hz:(List.zipWith okG n.gens g).length=n.gens.length:=by rw[List.length_zipWith];omega
 cases h1:decide ((i:Int)<(n.gens.length:Int))with
 |false=>
  have e:i=n.gens.length:=by have:=of_decide_eq_false h1;omega
  have et:(List.zipWith okG n.gens g).take i=List.zipWith okG n.gens g:=List.take_of_length_le (by omega)
  refine Zae ?_
  refine Zab ?_
  refine Zad ?_
  refine brF h1 ?_
  refine⟨rfl, ?_⟩
  exact Zah ⟨rfl,rfl,rfl,rfl,rfl,congrArg (fun x:List Bool=>some (SV.v (.i .i64) (Zh7 (b0&&x.all id)))) et,rfl,trivial⟩
 |true=>
  have hlt:i<n.gens.length:=by have:=of_decide_eq_true h1;omega
  obtain⟨x,gx0,gx⟩:=ZbU hlt
  obtain⟨p,gp0,gp⟩:=ZbU (l:=g) (i:=i) (by omega)
  obtain⟨_,hnode,hbad⟩:=ZpY hf (List.mem_of_getElem? gx0)
  have hfit:=Zpp hbad
  have ha:=ZlY (Ze4 (f:=okG) gx0 gp0)
  refine Zae ?_
  refine Zab ?_
  refine Zad ?_
  refine brT h1 ?_
  refine Zae ?_
  refine Zab ?_
  refine ZaY rfl (fun _=>rfl) (Int.natCast_nonneg i) gx rfl rfl ?_
  refine Zab ?_
  refine Zbs ?_
  refine Zab ?_
  refine Zaf rfl (ZaM rfl rfl rfl rfl rfl rfl rfl rfl ?_)
  refine ZaI rfl ?_
  refine Zad ?_
  cases h2:decide (p=0)with
  |true=>
   have ok:okG x p=true:=by rw[okG,h2];rfl
   have hb:(!decide (p=0))=false:=by rw[h2];rfl
   have hw:Zh7 (b0&&((List.zipWith okG n.gens g).take i).all id)=Zh7 (b0&&((List.zipWith okG n.gens g).take (i+1)).all id):=by rw[ha,ok,Bool.and_true]
   refine Zae ?_
   iterate 2 refine Zab ?_
   refine ZaY rfl (fun _=>rfl) (Int.natCast_nonneg i) gp rfl rfl ?_
   iterate 3 refine Zab ?_
   refine Zag hb ?_
   refine Zag hb ?_
   refine Zag hb ?_
   refine Zag hb ?_
   refine Zag hb ?_
   refine Zag hb ?_
   refine Zag hb ?_
   refine Zag hb ?_
   refine Zgh ?_
   refine Zgh ?_
   refine Zgh ?_
   refine Zgh ?_
   refine Zgh ?_
   refine Zgh ?_
   refine Zgh ?_
   refine Zag hb ?_
   refine Zag hb ?_
   refine Zap hb ?_
   refine Zad ?_
   refine brF rfl ?_
   refine Zae ?_
   iterate 2 refine Zab ?_
   refine Zad ?_
   refine⟨i+1,hlt,by show n.gens.length-(i+1)<n.gens.length-i;omega, ?_⟩
   exact ZaV [0] ⟨rfl,rfl,trivial⟩ (by decide) ⟨rfl,Zas,rfl,Zas,rfl,ZaL (by show 0<1;omega),congrArg some (Zco o).symm,Zcl o,rfl,Zas,congrArg (fun x=>some (SV.v (.i .i64) x)) hw,Zas,rfl,fun _ h=>absurd h List.not_mem_nil,rfl,Zas,rfl,Zas,congrArg (fun x=>some (SV.v (.i .i64) x)) (Za5 (by omega)),Zas,trivial⟩
  |false=>
   have hb:(!decide (p=0))=true:=by rw[h2];rfl
   cases h3:decide (p<x.2.2.1)with
   |true=>
    have ok:okG x p=false:=by rw[okG,h2,h3];rfl
    have h3':=geG h3
    have hw:(17:Int)=Zh7 (b0&&((List.zipWith okG n.gens g).take (i+1)).all id):=by rw[ha,ok,Bool.and_false,Bool.and_false];rfl
    refine Zae ?_
    iterate 2 refine Zab ?_
    refine ZaY rfl (fun _=>rfl) (Int.natCast_nonneg i) gp rfl rfl ?_
    iterate 3 refine Zab ?_
    refine Zaa hb ?_
    refine Zaa hb ?_
    refine Zbn rfl rfl rfl hb (fun _=>rfl) (Int.natCast_nonneg i) gp rfl rfl ?_
    refine Zaa hb ?_
    refine Zaa hb ?_
    refine Zai rfl rfl rfl hb (fun _=>rfl) rfl rfl rfl ?_
    refine Zaa hb ?_
    refine Zaa hb ?_
    refine Zag h3' ?_
    refine Zag h3' ?_
    refine Zag h3' ?_
    refine Zag h3' ?_
    refine Zag h3' ?_
    refine Zag h3' ?_
    refine Zag h3' ?_
    refine Zbq rfl rfl rfl hb rfl rfl h3' rfl rfl rfl ?_
    refine Zaa hb ?_
    refine Zaq hb ?_
    refine Zad ?_
    refine brT rfl ?_
    refine Zae ?_
    refine Zab ?_
    refine Zad ?_
    refine Zae ?_
    iterate 2 refine Zab ?_
    refine Zad ?_
    refine⟨i+1,hlt,by show n.gens.length-(i+1)<n.gens.length-i;omega, ?_⟩
    exact ZaV [0] ⟨rfl,rfl,trivial⟩ (by decide) ⟨rfl,Zas,rfl,Zas,rfl,ZaL (by show 0<1;omega),congrArg some (Zco o).symm,Zcl o,rfl,Zas,congrArg (fun x=>some (SV.v (.i .i64) x)) hw,Zas,rfl,fun _ h=>absurd h List.not_mem_nil,rfl,Zas,rfl,Zas,congrArg (fun x=>some (SV.v (.i .i64) x)) (Za5 (by omega)),Zas,trivial⟩
   |false=>
    have h3':=geG h3
    cases h4:decide (p>x.2.2.2.1)with
    |true=>
     have ok:okG x p=false:=by rw[okG,h2,h3,h4];rfl
     have h4':=leG h4
     have h5:(!decide (p≤x.2.2.2.1))=true:=by rw[h4'];rfl
     have hw:(17:Int)=Zh7 (b0&&((List.zipWith okG n.gens g).take (i+1)).all id):=by rw[ha,ok,Bool.and_false,Bool.and_false];rfl
     refine Zae ?_
     iterate 2 refine Zab ?_
     refine ZaY rfl (fun _=>rfl) (Int.natCast_nonneg i) gp rfl rfl ?_
     iterate 3 refine Zab ?_
     refine Zaa hb ?_
     refine Zaa hb ?_
     refine Zbn rfl rfl rfl hb (fun _=>rfl) (Int.natCast_nonneg i) gp rfl rfl ?_
     refine Zaa hb ?_
     refine Zaa hb ?_
     refine Zai rfl rfl rfl hb (fun _=>rfl) rfl rfl rfl ?_
     refine Zaa hb ?_
     refine Zaa hb ?_
     refine Zaa h3' ?_
     refine Zaa h3' ?_
     refine Zbn rfl rfl rfl h3' (fun _=>rfl) (Int.natCast_nonneg i) gp rfl rfl ?_
     refine Zaa h3' ?_
     refine Zaa h3' ?_
     refine Zai rfl rfl rfl h3' (fun _=>rfl) rfl rfl rfl ?_
     refine Zaa h3' ?_
     refine Zbw rfl rfl rfl hb rfl rfl h3' rfl rfl rfl ?_
     refine Zaa hb ?_
     refine Zaq hb ?_
     refine Zad ?_
     refine brT h5 ?_
     refine Zae ?_
     refine Zab ?_
     refine Zad ?_
     refine Zae ?_
     iterate 2 refine Zab ?_
     refine Zad ?_
     refine⟨i+1,hlt,by show n.gens.length-(i+1)<n.gens.length-i;omega, ?_⟩
     exact ZaV [0] ⟨rfl,rfl,trivial⟩ (by decide) ⟨rfl,Zas,rfl,Zas,rfl,ZaL (by show 0<1;omega),congrArg some (Zco o).symm,Zcl o,rfl,Zas,congrArg (fun x=>some (SV.v (.i .i64) x)) hw,Zas,rfl,fun _ h=>absurd h List.not_mem_nil,rfl,Zas,rfl,Zas,congrArg (fun x=>some (SV.v (.i .i64) x)) (Za5 (by omega)),Zas,trivial⟩
    |false=>
     have ok:okG x p=true:=by rw[okG,h2,h3,h4];rfl
     have h4':=leG h4
     have h5:(!decide (p≤x.2.2.2.1))=false:=by rw[h4'];rfl
     have hw:Zh7 (b0&&((List.zipWith okG n.gens g).take i).all id)=Zh7 (b0&&((List.zipWith okG n.gens g).take (i+1)).all id):=by rw[ha,ok,Bool.and_true]
     refine Zae ?_
     iterate 2 refine Zab ?_
     refine ZaY rfl (fun _=>rfl) (Int.natCast_nonneg i) gp rfl rfl ?_
     iterate 3 refine Zab ?_
     refine Zaa hb ?_
     refine Zaa hb ?_
     refine Zbn rfl rfl rfl hb (fun _=>rfl) (Int.natCast_nonneg i) gp rfl rfl ?_
     refine Zaa hb ?_
     refine Zaa hb ?_
     refine Zai rfl rfl rfl hb (fun _=>rfl) rfl rfl rfl ?_
     refine Zaa hb ?_
     refine Zaa hb ?_
     refine Zaa h3' ?_
     refine Zaa h3' ?_
     refine Zbn rfl rfl rfl h3' (fun _=>rfl) (Int.natCast_nonneg i) gp rfl rfl ?_
     refine Zaa h3' ?_
     refine Zaa h3' ?_
     refine Zai rfl rfl rfl h3' (fun _=>rfl) rfl rfl rfl ?_
     refine Zaa h3' ?_
     refine Zbw rfl rfl rfl hb rfl rfl h3' rfl rfl rfl ?_
     refine Zaa hb ?_
     refine Zaq hb ?_
     refine Zad ?_
     refine brF h5 ?_
     refine Zae ?_
     iterate 2 refine Zab ?_
     refine Zad ?_
     refine⟨i+1,hlt,by show n.gens.length-(i+1)<n.gens.length-i;omega, ?_⟩
     exact ZaV [0] ⟨rfl,rfl,trivial⟩ (by decide) ⟨rfl,Zas,rfl,Zas,rfl,ZaL (by show 0<1;omega),congrArg some (Zco o).symm,Zcl o,rfl,Zas,congrArg (fun x=>some (SV.v (.i .i64) x)) hw,Zas,rfl,fun _ h=>absurd h List.not_mem_nil,rfl,Zas,rfl,Zas,congrArg (fun x=>some (SV.v (.i .i64) x)) (Za5 (by omega)),Zas,trivial⟩
def zfS (n:Ne.Net) (g s:List Int) (o:Option (List Int)) (e0 w:Int) (i:Nat):TM:=[(1, .v (.l I64) g),(2, .v (.l I64) s),(3, .ptr 0 0 0),(7,Zid o),(8, .v (.i .i64) e0),(9, .v (.i .i64) w),(10, .nils),(89, .v (.l gCT) n.stores),(90,nt n.stores.length),(91,nt i)]
set_option maxHeartbeats 16000000 in
theorem ZlI (n:Ne.Net) (g s:List Int) (o:Option (List Int)) (e0:Int) (b0:Bool) (hf:Fine n) (hg:s.length=n.stores.length):
 LoopOK Tryz.prog ZaO 0 ⟨4,0,206⟩ (Zbd Tryz.f4 16) (zfS n g s o e0 (Zh7 b0) 0) [.cell (ZbD n) true]
 (fun e tm hp'=>e= .exit 2∧Ent 0 tm hp' [(1, .v (.l I64) g),(2, .v (.l I64) s),(3, .ptr 0 0 0),(7,Zid o),(8, .v (.i .i64) e0),(9, .v (.i .i64) (Zh7 (b0&&Zo5 n.stores s))),(10, .nils)] [.cell (ZbD n) true]):=by
 obtain⟨b1,b2,b3,b4⟩:=ZbP hf.big
 refine ZaH Zaw rfl (fun i=>zfS n g s o e0 (Zh7 (b0&&((List.zipWith okS n.stores s).take i).all id)) i) (fun _=> [.cell (ZbD n) true]) (fun i=>i≤n.stores.length) (fun i=>n.stores.length-i) ?_ 0 (Nat.zero_le _) ?_
 case refine_2=>
  have e0:b0=(b0&&((List.zipWith okS n.stores s).take 0).all id):=by rw[List.take_zero,List.all_nil,Bool.and_true]
  exact Zah ⟨rfl,rfl,rfl,rfl,rfl,congrArg (fun x=>some (SV.v (.i .i64) (Zh7 x))) e0,rfl,rfl,rfl,rfl,trivial⟩
 rintro i hi
 have hz:(List.zipWith okS n.stores s).length=n.stores.length:=by rw[List.length_zipWith];omega
 cases h1:decide ((i:Int)<(n.stores.length:Int))with
 |false=>
  have e:i=n.stores.length:=by have:=of_decide_eq_false h1;omega
  have et:(List.zipWith okS n.stores s).take i=List.zipWith okS n.stores s:=List.take_of_length_le (by omega)
  refine Zae ?_
  refine Zab ?_
  refine Zad ?_
  refine brF h1 ?_
  refine⟨rfl, ?_⟩
  exact Zah ⟨rfl,rfl,rfl,rfl,rfl,congrArg (fun x:List Bool=>some (SV.v (.i .i64) (Zh7 (b0&&x.all id)))) et,rfl,trivial⟩
 |true=>
  have hlt:i<n.stores.length:=by have:=of_decide_eq_true h1;omega
  obtain⟨x,gx0,gx⟩:=ZbU hlt
  obtain⟨p,gp0,gp⟩:=ZbU (l:=s) (i:=i) (by omega)
  obtain⟨_,hnode,hbad⟩:=Zo1 hf (List.mem_of_getElem? gx0)
  have hfit:=Zou hbad
  have ha:=ZlY (Ze4 (f:=okS) gx0 gp0)
  refine Zae ?_
  refine Zab ?_
  refine Zad ?_
  refine brT h1 ?_
  refine Zae ?_
  refine Zab ?_
  refine ZaY rfl (fun _=>rfl) (Int.natCast_nonneg i) gx rfl rfl ?_
  refine Zab ?_
  refine Zbs ?_
  refine Zab ?_
  refine Zaf rfl (ZaM rfl rfl rfl rfl rfl rfl rfl rfl ?_)
  refine ZaI rfl ?_
  refine Zad ?_
  have hng:IntKind.i64.wrap (0-x.2.2.1)= -x.2.2.1:=by rw[Zdf (by omega) (by omega)];omega
  cases h3:decide (p< -x.2.2.1)with
  |true=>
   have ok:okS x p=false:=by rw[okS,h3];rfl
   have h3':decide (p≥IntKind.i64.wrap (0-x.2.2.1))=false:=by rw[hng];exact geG h3
   have hw:(17:Int)=Zh7 (b0&&((List.zipWith okS n.stores s).take (i+1)).all id):=by rw[ha,ok,Bool.and_false,Bool.and_false];rfl
   refine Zae ?_
   iterate 2 refine Zab ?_
   refine ZaY rfl (fun _=>rfl) (Int.natCast_nonneg i) gp rfl rfl ?_
   iterate 2 refine Zab ?_
   refine Zal rfl (fun _=>rfl) rfl rfl rfl ?_
   iterate 3 refine Zab ?_
   refine Zag h3' ?_
   refine Zag h3' ?_
   refine Zag h3' ?_
   refine Zag h3' ?_
   refine Zag h3' ?_
   refine Zag h3' ?_
   refine Zag h3' ?_
   refine Zap h3' ?_
   refine Zab ?_
   refine Zad ?_
   refine brT rfl ?_
   refine Zae ?_
   refine Zab ?_
   refine Zad ?_
   refine Zae ?_
   iterate 2 refine Zab ?_
   refine Zad ?_
   refine⟨i+1,hlt,by show n.stores.length-(i+1)<n.stores.length-i;omega, ?_⟩
   exact ZaV [0] ⟨rfl,rfl,trivial⟩ (by decide) ⟨rfl,Zas,rfl,Zas,rfl,ZaL (by show 0<1;omega),congrArg some (Zco o).symm,Zcl o,rfl,Zas,congrArg (fun x=>some (SV.v (.i .i64) x)) hw,Zas,rfl,fun _ h=>absurd h List.not_mem_nil,rfl,Zas,rfl,Zas,congrArg (fun x=>some (SV.v (.i .i64) x)) (Za5 (by omega)),Zas,trivial⟩
  |false=>
   have h3':decide (p≥IntKind.i64.wrap (0-x.2.2.1))=true:=by rw[hng];exact geG h3
   cases h4:decide (p>x.2.2.2.1)with
   |true=>
    have ok:okS x p=false:=by rw[okS,h3,h4];rfl
    have h4':=leG h4
    have h5:(!decide (p≤x.2.2.2.1))=true:=by rw[h4'];rfl
    have hw:(17:Int)=Zh7 (b0&&((List.zipWith okS n.stores s).take (i+1)).all id):=by rw[ha,ok,Bool.and_false,Bool.and_false];rfl
    refine Zae ?_
    iterate 2 refine Zab ?_
    refine ZaY rfl (fun _=>rfl) (Int.natCast_nonneg i) gp rfl rfl ?_
    iterate 2 refine Zab ?_
    refine Zal rfl (fun _=>rfl) rfl rfl rfl ?_
    iterate 3 refine Zab ?_
    refine Zaa h3' ?_
    refine Zaa h3' ?_
    refine Zbn rfl rfl rfl h3' (fun _=>rfl) (Int.natCast_nonneg i) gp rfl rfl ?_
    refine Zaa h3' ?_
    refine Zaa h3' ?_
    refine Zai rfl rfl rfl h3' (fun _=>rfl) rfl rfl rfl ?_
    refine Zaa h3' ?_
    refine Zaq h3' ?_
    refine Zab ?_
    refine Zad ?_
    refine brT h5 ?_
    refine Zae ?_
    refine Zab ?_
    refine Zad ?_
    refine Zae ?_
    iterate 2 refine Zab ?_
    refine Zad ?_
    refine⟨i+1,hlt,by show n.stores.length-(i+1)<n.stores.length-i;omega, ?_⟩
    exact ZaV [0] ⟨rfl,rfl,trivial⟩ (by decide) ⟨rfl,Zas,rfl,Zas,rfl,ZaL (by show 0<1;omega),congrArg some (Zco o).symm,Zcl o,rfl,Zas,congrArg (fun x=>some (SV.v (.i .i64) x)) hw,Zas,rfl,fun _ h=>absurd h List.not_mem_nil,rfl,Zas,rfl,Zas,congrArg (fun x=>some (SV.v (.i .i64) x)) (Za5 (by omega)),Zas,trivial⟩
   |false=>
    have ok:okS x p=true:=by rw[okS,h3,h4];rfl
    have h4':=leG h4
    have h5:(!decide (p≤x.2.2.2.1))=false:=by rw[h4'];rfl
    have hw:Zh7 (b0&&((List.zipWith okS n.stores s).take i).all id)=Zh7 (b0&&((List.zipWith okS n.stores s).take (i+1)).all id):=by rw[ha,ok,Bool.and_true]
    refine Zae ?_
    iterate 2 refine Zab ?_
    refine ZaY rfl (fun _=>rfl) (Int.natCast_nonneg i) gp rfl rfl ?_
    iterate 2 refine Zab ?_
    refine Zal rfl (fun _=>rfl) rfl rfl rfl ?_
    iterate 3 refine Zab ?_
    refine Zaa h3' ?_
    refine Zaa h3' ?_
    refine Zbn rfl rfl rfl h3' (fun _=>rfl) (Int.natCast_nonneg i) gp rfl rfl ?_
    refine Zaa h3' ?_
    refine Zaa h3' ?_
    refine Zai rfl rfl rfl h3' (fun _=>rfl) rfl rfl rfl ?_
    refine Zaa h3' ?_
    refine Zaq h3' ?_
    refine Zab ?_
    refine Zad ?_
    refine brF h5 ?_
    refine Zae ?_
    iterate 2 refine Zab ?_
    refine Zad ?_
    refine⟨i+1,hlt,by show n.stores.length-(i+1)<n.stores.length-i;omega, ?_⟩
    exact ZaV [0] ⟨rfl,rfl,trivial⟩ (by decide) ⟨rfl,Zas,rfl,Zas,rfl,ZaL (by show 0<1;omega),congrArg some (Zco o).symm,Zcl o,rfl,Zas,congrArg (fun x=>some (SV.v (.i .i64) x)) hw,Zas,rfl,fun _ h=>absurd h List.not_mem_nil,rfl,Zas,rfl,Zas,congrArg (fun x=>some (SV.v (.i .i64) x)) (Za5 (by omega)),Zas,trivial⟩
def zgG (n:Ne.Net) (g s:List Int) (o:Option (List Int)) (e0 w:Int) (t:Txt) (k q:Nat) (sm:Int) (i:Nat):TM:=[(1, .v (.l I64) g),(2, .v (.l I64) s),(3, .ptr 0 0 0),(7,Zid o),(8, .v (.i .i64) e0),(9, .v (.i .i64) w),(10, .ref 1 0 k none),(16, .v .s t),(17, .v (.i .i64) sm),(118, .v (.l .s) n.nodes),(119,nt n.nodes.length),(120,nt q),(125, .v (.l gCT) n.gens),(126,nt n.gens.length),(127,nt i)]
set_option maxHeartbeats 16000000 in
theorem Zr3 (n:Ne.Net) (g s:List Int) (o:Option (List Int)) (e0 w:Int) (t:Txt) (k q:Nat) (acc:List Int) (p0:List (Txt×Int)) (hl0:p0.length≤100) (hf:Fine n) (hg:g.length=n.gens.length) (hB:Bd (p0++itG n.gens g)):
 LoopOK Tryz.prog ZaO 0 ⟨4,0,206⟩ (Zbd Tryz.f4 27) (zgG n g s o e0 w t k q (ZaT p0 t) 0) [.cell (ZbD n) true, .row I64 acc true]
 (fun e tm hp'=>e= .exit 6∧Ent 0 tm hp' [(1, .v (.l I64) g),(2, .v (.l I64) s),(3, .ptr 0 0 0),(7,Zid o),(8, .v (.i .i64) e0),(9, .v (.i .i64) w),(10, .ref 1 0 k none),(16, .v .s t),(17, .v (.i .i64) (ZaT (p0++itG n.gens g) t)),(118, .v (.l .s) n.nodes),(119,nt n.nodes.length),(120,nt q)] [.cell (ZbD n) true, .row I64 acc true]):=by
 obtain⟨b1,b2,b3,b4⟩:=ZbP hf.big
 refine ZaH Zaw rfl (fun i=>zgG n g s o e0 w t k q (ZaT (p0++(itG n.gens g).take i) t) i) (fun _=> [.cell (ZbD n) true, .row I64 acc true]) (fun i=>i≤n.gens.length) (fun i=>n.gens.length-i) ?_ 0 (Nat.zero_le _) ?_
 case refine_2=>
  have e1:p0=p0++(itG n.gens g).take 0:=by rw[List.take_zero,List.append_nil]
  exact Zah ⟨rfl,rfl,rfl,rfl,rfl,rfl,rfl,rfl,congrArg (fun x=>some (SV.v (.i .i64) (ZaT x t))) e1,rfl,rfl,rfl,rfl,rfl,rfl,trivial⟩
 rintro i hi
 have hz2:(itG n.gens g).length=n.gens.length:=by rw[itG,List.length_zipWith];omega
 cases h1:decide ((i:Int)<(n.gens.length:Int))with
 |false=>
  have e:i=n.gens.length:=by have:=of_decide_eq_false h1;omega
  have et:(itG n.gens g).take i=itG n.gens g:=List.take_of_length_le (by omega)
  refine Zae ?_
  refine Zab ?_
  refine Zad ?_
  refine brF h1 ?_
  refine⟨rfl, ?_⟩
  exact Zah ⟨rfl,rfl,rfl,rfl,rfl,rfl,rfl,rfl,congrArg (fun x=>some (SV.v (.i .i64) (ZaT (p0++x) t))) et,rfl,rfl,rfl,trivial⟩
 |true=>
  have hlt:i<n.gens.length:=by have:=of_decide_eq_true h1;omega
  obtain⟨x,gx0,gx⟩:=ZbU hlt
  obtain⟨p,gp0,gp⟩:=ZbU (l:=g) (i:=i) (by omega)
  have ht:p0++(itG n.gens g).take (i+1)=p0++(itG n.gens g).take i++ [(x.2.1,p)]:=by
   rw[List.append_assoc]
   exact congrArg (p0++ ·) (ZbR (Ze4 (f:=fun(g:Ge) (x:Int)=>(g.2.1,x)) gx0 gp0))
  have hBi:Bd (p0++(itG n.gens g).take i):=fun q hq=>hB q (by
   rcases List.mem_append.1 hq with hq|hq
   ·exact List.mem_append_left _ hq
   ·exact List.mem_append_right _ (List.mem_of_mem_take hq))
  have hLen:(p0++(itG n.gens g).take i).length≤1000:=by rw[List.length_append,List.length_take];omega
  have hfit2:=Zfl t hLen hBi
  have hp2: -1000000≤p∧p≤1000000:=hB (x.2.1,p) (List.mem_append_right _ (List.mem_of_getElem? (i:=i) (by exact Ze4 (f:=fun(g:Ge) (x:Int)=>(g.2.1,x)) gx0 gp0)))
  refine Zae ?_
  refine Zab ?_
  refine Zad ?_
  refine brT h1 ?_
  refine Zae ?_
  refine Zab ?_
  refine ZaY rfl (fun _=>rfl) (Int.natCast_nonneg i) gx rfl rfl ?_
  refine Zab ?_
  refine Zbs ?_
  refine Zab ?_
  refine Zaf rfl (ZaM rfl rfl rfl rfl rfl rfl rfl rfl ?_)
  refine ZaI rfl ?_
  refine Zad ?_
  cases h2:(x.2.1==t)with
  |true=>
   have hs:IntKind.i64.wrap (ZaT (p0++(itG n.gens g).take i) t+p)=ZaT (p0++(itG n.gens g).take (i+1)) t:=by
    rw[ht,Zb1]
    simp only[h2,cond_true]
    rw[Zdf (by omega) (by omega)]
   refine Zae ?_
   refine Zab ?_
   refine Zal rfl (fun _=>rfl) rfl rfl rfl ?_
   iterate 2 refine Zab ?_
   refine Zad ?_
   refine brT h2 ?_
   refine Zae ?_
   iterate 3 refine Zab ?_
   refine ZaY rfl (fun _=>rfl) (Int.natCast_nonneg i) gp rfl rfl ?_
   iterate 3 refine Zab ?_
   refine Zad ?_
   refine Zae ?_
   iterate 2 refine Zab ?_
   refine Zad ?_
   refine⟨i+1,hlt,by show n.gens.length-(i+1)<n.gens.length-i;omega, ?_⟩
   exact ZaV [0,1] ⟨rfl,rfl,rfl,rfl,trivial⟩ (by decide) ⟨rfl,Zas,rfl,Zas,rfl,ZaL (by show 0<2;omega),congrArg some (Zco o).symm,Zcl o,rfl,Zas,rfl,Zas,rfl,Zbm (by show 1<2;omega),rfl,Zas,congrArg (fun x=>some (SV.v (.i .i64) x)) hs,Zas,rfl,Zas,rfl,Zas,rfl,Zas,rfl,Zas,rfl,Zas,congrArg (fun x=>some (SV.v (.i .i64) x)) (Za5 (by omega)),Zas,trivial⟩
  |false=>
   have hs:ZaT (p0++(itG n.gens g).take i) t=ZaT (p0++(itG n.gens g).take (i+1)) t:=by
    rw[ht,Zb1]
    simp only[h2,cond_false]
   refine Zae ?_
   refine Zab ?_
   refine Zal rfl (fun _=>rfl) rfl rfl rfl ?_
   iterate 2 refine Zab ?_
   refine Zad ?_
   refine brF h2 ?_
   refine Zae ?_
   iterate 2 refine Zab ?_
   refine Zad ?_
   refine⟨i+1,hlt,by show n.gens.length-(i+1)<n.gens.length-i;omega, ?_⟩
   exact ZaV [0,1] ⟨rfl,rfl,rfl,rfl,trivial⟩ (by decide) ⟨rfl,Zas,rfl,Zas,rfl,ZaL (by show 0<2;omega),congrArg some (Zco o).symm,Zcl o,rfl,Zas,rfl,Zas,rfl,Zbm (by show 1<2;omega),rfl,Zas,congrArg (fun x=>some (SV.v (.i .i64) x)) hs,Zas,rfl,Zas,rfl,Zas,rfl,Zas,rfl,Zas,rfl,Zas,congrArg (fun x=>some (SV.v (.i .i64) x)) (Za5 (by omega)),Zas,trivial⟩
def zgS (n:Ne.Net) (g s:List Int) (o:Option (List Int)) (e0 w:Int) (t:Txt) (k q:Nat) (sm:Int) (i:Nat):TM:=[(1, .v (.l I64) g),(2, .v (.l I64) s),(3, .ptr 0 0 0),(7,Zid o),(8, .v (.i .i64) e0),(9, .v (.i .i64) w),(10, .ref 1 0 k none),(16, .v .s t),(17, .v (.i .i64) sm),(118, .v (.l .s) n.nodes),(119,nt n.nodes.length),(120,nt q),(144, .v (.l gCT) n.stores),(145,nt n.stores.length),(146,nt i)]
set_option maxHeartbeats 16000000 in
theorem Zs2 (n:Ne.Net) (g s:List Int) (o:Option (List Int)) (e0 w:Int) (t:Txt) (k q:Nat) (acc:List Int) (p0:List (Txt×Int)) (hl0:p0.length≤100) (hf:Fine n) (hg:s.length=n.stores.length) (hB:Bd (p0++itS n.stores s)):
 LoopOK Tryz.prog ZaO 0 ⟨4,0,206⟩ (Zbd Tryz.f4 33) (zgS n g s o e0 w t k q (ZaT p0 t) 0) [.cell (ZbD n) true, .row I64 acc true]
 (fun e tm hp'=>e= .exit 8∧Ent 0 tm hp' [(1, .v (.l I64) g),(2, .v (.l I64) s),(3, .ptr 0 0 0),(7,Zid o),(8, .v (.i .i64) e0),(9, .v (.i .i64) w),(10, .ref 1 0 k none),(16, .v .s t),(17, .v (.i .i64) (ZaT (p0++itS n.stores s) t)),(118, .v (.l .s) n.nodes),(119,nt n.nodes.length),(120,nt q)] [.cell (ZbD n) true, .row I64 acc true]):=by
 obtain⟨b1,b2,b3,b4⟩:=ZbP hf.big
 refine ZaH Zaw rfl (fun i=>zgS n g s o e0 w t k q (ZaT (p0++(itS n.stores s).take i) t) i) (fun _=> [.cell (ZbD n) true, .row I64 acc true]) (fun i=>i≤n.stores.length) (fun i=>n.stores.length-i) ?_ 0 (Nat.zero_le _) ?_
 case refine_2=>
  have e1:p0=p0++(itS n.stores s).take 0:=by rw[List.take_zero,List.append_nil]
  exact Zah ⟨rfl,rfl,rfl,rfl,rfl,rfl,rfl,rfl,congrArg (fun x=>some (SV.v (.i .i64) (ZaT x t))) e1,rfl,rfl,rfl,rfl,rfl,rfl,trivial⟩
 rintro i hi
 have hz2:(itS n.stores s).length=n.stores.length:=by rw[itS,List.length_zipWith];omega
 cases h1:decide ((i:Int)<(n.stores.length:Int))with
 |false=>
  have e:i=n.stores.length:=by have:=of_decide_eq_false h1;omega
  have et:(itS n.stores s).take i=itS n.stores s:=List.take_of_length_le (by omega)
  refine Zae ?_
  refine Zab ?_
  refine Zad ?_
  refine brF h1 ?_
  refine⟨rfl, ?_⟩
  exact Zah ⟨rfl,rfl,rfl,rfl,rfl,rfl,rfl,rfl,congrArg (fun x=>some (SV.v (.i .i64) (ZaT (p0++x) t))) et,rfl,rfl,rfl,trivial⟩
 |true=>
  have hlt:i<n.stores.length:=by have:=of_decide_eq_true h1;omega
  obtain⟨x,gx0,gx⟩:=ZbU hlt
  obtain⟨p,gp0,gp⟩:=ZbU (l:=s) (i:=i) (by omega)
  have ht:p0++(itS n.stores s).take (i+1)=p0++(itS n.stores s).take i++ [(x.2.1,p)]:=by
   rw[List.append_assoc]
   exact congrArg (p0++ ·) (ZbR (Ze4 (f:=fun(g:Ge) (x:Int)=>(g.2.1,x)) gx0 gp0))
  have hBi:Bd (p0++(itS n.stores s).take i):=fun q hq=>hB q (by
   rcases List.mem_append.1 hq with hq|hq
   ·exact List.mem_append_left _ hq
   ·exact List.mem_append_right _ (List.mem_of_mem_take hq))
  have hLen:(p0++(itS n.stores s).take i).length≤1000:=by rw[List.length_append,List.length_take];omega
  have hfit2:=Zfl t hLen hBi
  have hp2: -1000000≤p∧p≤1000000:=hB (x.2.1,p) (List.mem_append_right _ (List.mem_of_getElem? (i:=i) (by exact Ze4 (f:=fun(g:Ge) (x:Int)=>(g.2.1,x)) gx0 gp0)))
  refine Zae ?_
  refine Zab ?_
  refine Zad ?_
  refine brT h1 ?_
  refine Zae ?_
  refine Zab ?_
  refine ZaY rfl (fun _=>rfl) (Int.natCast_nonneg i) gx rfl rfl ?_
  refine Zab ?_
  refine Zbs ?_
  refine Zab ?_
  refine Zaf rfl (ZaM rfl rfl rfl rfl rfl rfl rfl rfl ?_)
  refine ZaI rfl ?_
  refine Zad ?_
  cases h2:(x.2.1==t)with
  |true=>
   have hs:IntKind.i64.wrap (ZaT (p0++(itS n.stores s).take i) t+p)=ZaT (p0++(itS n.stores s).take (i+1)) t:=by
    rw[ht,Zb1]
    simp only[h2,cond_true]
    rw[Zdf (by omega) (by omega)]
   refine Zae ?_
   refine Zab ?_
   refine Zal rfl (fun _=>rfl) rfl rfl rfl ?_
   iterate 2 refine Zab ?_
   refine Zad ?_
   refine brT h2 ?_
   refine Zae ?_
   iterate 3 refine Zab ?_
   refine ZaY rfl (fun _=>rfl) (Int.natCast_nonneg i) gp rfl rfl ?_
   iterate 3 refine Zab ?_
   refine Zad ?_
   refine Zae ?_
   iterate 2 refine Zab ?_
   refine Zad ?_
   refine⟨i+1,hlt,by show n.stores.length-(i+1)<n.stores.length-i;omega, ?_⟩
   exact ZaV [0,1] ⟨rfl,rfl,rfl,rfl,trivial⟩ (by decide) ⟨rfl,Zas,rfl,Zas,rfl,ZaL (by show 0<2;omega),congrArg some (Zco o).symm,Zcl o,rfl,Zas,rfl,Zas,rfl,Zbm (by show 1<2;omega),rfl,Zas,congrArg (fun x=>some (SV.v (.i .i64) x)) hs,Zas,rfl,Zas,rfl,Zas,rfl,Zas,rfl,Zas,rfl,Zas,congrArg (fun x=>some (SV.v (.i .i64) x)) (Za5 (by omega)),Zas,trivial⟩
  |false=>
   have hs:ZaT (p0++(itS n.stores s).take i) t=ZaT (p0++(itS n.stores s).take (i+1)) t:=by
    rw[ht,Zb1]
    simp only[h2,cond_false]
   refine Zae ?_
   refine Zab ?_
   refine Zal rfl (fun _=>rfl) rfl rfl rfl ?_
   iterate 2 refine Zab ?_
   refine Zad ?_
   refine brF h2 ?_
   refine Zae ?_
   iterate 2 refine Zab ?_
   refine Zad ?_
   refine⟨i+1,hlt,by show n.stores.length-(i+1)<n.stores.length-i;omega, ?_⟩
   exact ZaV [0,1] ⟨rfl,rfl,rfl,rfl,trivial⟩ (by decide) ⟨rfl,Zas,rfl,Zas,rfl,ZaL (by show 0<2;omega),congrArg some (Zco o).symm,Zcl o,rfl,Zas,rfl,Zas,rfl,Zbm (by show 1<2;omega),rfl,Zas,congrArg (fun x=>some (SV.v (.i .i64) x)) hs,Zas,rfl,Zas,rfl,Zas,rfl,Zas,rfl,Zas,rfl,Zas,congrArg (fun x=>some (SV.v (.i .i64) x)) (Za5 (by omega)),Zas,trivial⟩
def zgL (n:Ne.Net) (g s:List Int) (o:Option (List Int)) (e0 w:Int) (t:Txt) (k q:Nat) (sm:Int) (i:Nat):TM:=[(1, .v (.l I64) g),(2, .v (.l I64) s),(3, .ptr 0 0 0),(7,Zid o),(8, .v (.i .i64) e0),(9, .v (.i .i64) w),(10, .ref 1 0 k none),(16, .v .s t),(17, .v (.i .i64) sm),(118, .v (.l .s) n.nodes),(119,nt n.nodes.length),(120,nt q),(163, .v (.l dCT) n.loads),(164,nt n.loads.length),(165,nt i)]
set_option maxHeartbeats 16000000 in
theorem Zr7 (n:Ne.Net) (g s:List Int) (o:Option (List Int)) (e0 w:Int) (t:Txt) (k q:Nat) (acc:List Int) (p0:List (Txt×Int)) (hl0:p0.length≤100) (hf:Fine n) (hB:Bd (p0++itL n.loads)):
 LoopOK Tryz.prog ZaO 0 ⟨4,0,206⟩ (Zbd Tryz.f4 39) (zgL n g s o e0 w t k q (ZaT p0 t) 0) [.cell (ZbD n) true, .row I64 acc true]
 (fun e tm hp'=>e= .exit 10∧Ent 0 tm hp' [(1, .v (.l I64) g),(2, .v (.l I64) s),(3, .ptr 0 0 0),(7,Zid o),(8, .v (.i .i64) e0),(9, .v (.i .i64) w),(10, .ref 1 0 k none),(16, .v .s t),(17, .v (.i .i64) (ZaT (p0++itL n.loads) t)),(118, .v (.l .s) n.nodes),(119,nt n.nodes.length),(120,nt q)] [.cell (ZbD n) true, .row I64 acc true]):=by
 obtain⟨b1,b2,b3,b4⟩:=ZbP hf.big
 refine ZaH Zaw rfl (fun i=>zgL n g s o e0 w t k q (ZaT (p0++(itL n.loads).take i) t) i) (fun _=> [.cell (ZbD n) true, .row I64 acc true]) (fun i=>i≤n.loads.length) (fun i=>n.loads.length-i) ?_ 0 (Nat.zero_le _) ?_
 case refine_2=>
  have e1:p0=p0++(itL n.loads).take 0:=by rw[List.take_zero,List.append_nil]
  exact Zah ⟨rfl,rfl,rfl,rfl,rfl,rfl,rfl,rfl,congrArg (fun x=>some (SV.v (.i .i64) (ZaT x t))) e1,rfl,rfl,rfl,rfl,rfl,rfl,trivial⟩
 rintro i hi
 have hz2:(itL n.loads).length=n.loads.length:=by rw[itL,List.length_map]
 cases h1:decide ((i:Int)<(n.loads.length:Int))with
 |false=>
  have e:i=n.loads.length:=by have:=of_decide_eq_false h1;omega
  have et:(itL n.loads).take i=itL n.loads:=List.take_of_length_le (by omega)
  refine Zae ?_
  refine Zab ?_
  refine Zad ?_
  refine brF h1 ?_
  refine⟨rfl, ?_⟩
  exact Zah ⟨rfl,rfl,rfl,rfl,rfl,rfl,rfl,rfl,congrArg (fun x=>some (SV.v (.i .i64) (ZaT (p0++x) t))) et,rfl,rfl,rfl,trivial⟩
 |true=>
  have hlt:i<n.loads.length:=by have:=of_decide_eq_true h1;omega
  obtain⟨x,gx0,gx⟩:=ZbU hlt
  obtain⟨p,hp⟩: ∃p,-x.2.2=p:=⟨_,rfl⟩
  obtain⟨_,_,hbad⟩:=Zqc hf (List.mem_of_getElem? gx0)
  have hfit:=ZoA hbad
  have ht:p0++(itL n.loads).take (i+1)=p0++(itL n.loads).take i++ [(x.2.1,p)]:=by
   rw[List.append_assoc,←hp]
   exact congrArg (p0++ ·) (ZbR (by rw[itL,List.getElem?_map,gx0];rfl))
  have hBi:Bd (p0++(itL n.loads).take i):=fun q hq=>hB q (by
   rcases List.mem_append.1 hq with hq|hq
   ·exact List.mem_append_left _ hq
   ·exact List.mem_append_right _ (List.mem_of_mem_take hq))
  have hLen:(p0++(itL n.loads).take i).length≤1000:=by rw[List.length_append,List.length_take];omega
  have hfit2:=Zfl t hLen hBi
  have hp2: -1000000≤p∧p≤1000000:=hB (x.2.1,p) (List.mem_append_right _ (List.mem_of_getElem? (i:=i) (by rw[itL,List.getElem?_map,gx0,←hp];rfl)))
  refine Zae ?_
  refine Zab ?_
  refine Zad ?_
  refine brT h1 ?_
  refine Zae ?_
  refine ZaY rfl (fun _=>rfl) (Int.natCast_nonneg i) gx rfl rfl ?_
  refine Zab ?_
  refine Zbs ?_
  refine Zaf rfl (ZaM rfl rfl rfl rfl rfl rfl rfl rfl ?_)
  refine ZaI rfl ?_
  refine Zad ?_
  cases h2:(x.2.1==t)with
  |true=>
   have hs:IntKind.i64.wrap (ZaT (p0++(itL n.loads).take i) t-x.2.2)=ZaT (p0++(itL n.loads).take (i+1)) t:=by
    rw[ht,Zb1]
    simp only[h2,cond_true]
    rw[Zdf (by omega) (by omega)];omega
   refine Zae ?_
   refine Zab ?_
   refine Zal rfl (fun _=>rfl) rfl rfl rfl ?_
   iterate 2 refine Zab ?_
   refine Zad ?_
   refine brT h2 ?_
   refine Zae ?_
   iterate 2 refine Zab ?_
   refine Zal rfl (fun _=>rfl) rfl rfl rfl ?_
   iterate 2 refine Zab ?_
   refine Zad ?_
   refine Zae ?_
   iterate 2 refine Zab ?_
   refine Zad ?_
   refine⟨i+1,hlt,by show n.loads.length-(i+1)<n.loads.length-i;omega, ?_⟩
   exact ZaV [0,1] ⟨rfl,rfl,rfl,rfl,trivial⟩ (by decide) ⟨rfl,Zas,rfl,Zas,rfl,ZaL (by show 0<2;omega),congrArg some (Zco o).symm,Zcl o,rfl,Zas,rfl,Zas,rfl,Zbm (by show 1<2;omega),rfl,Zas,congrArg (fun x=>some (SV.v (.i .i64) x)) hs,Zas,rfl,Zas,rfl,Zas,rfl,Zas,rfl,Zas,rfl,Zas,congrArg (fun x=>some (SV.v (.i .i64) x)) (Za5 (by omega)),Zas,trivial⟩
  |false=>
   have hs:ZaT (p0++(itL n.loads).take i) t=ZaT (p0++(itL n.loads).take (i+1)) t:=by
    rw[ht,Zb1]
    simp only[h2,cond_false]
   refine Zae ?_
   refine Zab ?_
   refine Zal rfl (fun _=>rfl) rfl rfl rfl ?_
   iterate 2 refine Zab ?_
   refine Zad ?_
   refine brF h2 ?_
   refine Zae ?_
   iterate 2 refine Zab ?_
   refine Zad ?_
   refine⟨i+1,hlt,by show n.loads.length-(i+1)<n.loads.length-i;omega, ?_⟩
   exact ZaV [0,1] ⟨rfl,rfl,rfl,rfl,trivial⟩ (by decide) ⟨rfl,Zas,rfl,Zas,rfl,ZaL (by show 0<2;omega),congrArg some (Zco o).symm,Zcl o,rfl,Zas,rfl,Zas,rfl,Zbm (by show 1<2;omega),rfl,Zas,congrArg (fun x=>some (SV.v (.i .i64) x)) hs,Zas,rfl,Zas,rfl,Zas,rfl,Zas,rfl,Zas,rfl,Zas,congrArg (fun x=>some (SV.v (.i .i64) x)) (Za5 (by omega)),Zas,trivial⟩
end Go.Proofs.YtgmjnhiakpcpbaaGreatDoor
