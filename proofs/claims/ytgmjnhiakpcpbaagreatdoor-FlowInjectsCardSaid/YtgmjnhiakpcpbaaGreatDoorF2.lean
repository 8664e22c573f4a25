/-
 flow.Inject: what it answers.
-/
import Derived.Test.YtgmjnhiakpcpbaaGreatDoorF1
set_option linter.constructorNameAsVariable false
set_option linter.unusedSimpArgs false
set_option linter.unusedVariables false
namespace Go.Proofs.YtgmjnhiakpcpbaaGreatDoor
open Go.Am Go.Tx Ne
set_option maxRecDepth 100000
def Zid:Option (List Int)→SV
 |none=> .nils
 |some l=> .v (.l I64) l
abbrev ZhP (n:Ne.Net) (g s:List Int):List (Txt×Int):=[]++itG n.gens g++itS n.stores s++itL n.loads
def Zn6 (n:Ne.Net) (g s:List Int):Option (List Int)×Int:=
 bif !(Zl5 n.gens g&&Zo5 n.stores s)then(none,17)else
 bif (n.nodes.map (ZaT (ZhP n g s))).any ZbE then(none,4)else(some (n.nodes.map (ZaT (ZhP n g s))),0)
set_option maxHeartbeats 8000000 in
theorem Zqz (n:Ne.Net) (g s:List Int) (hz:Zce n) (h:(!decide (ZdM n=0))=true):PureOK Tryz.prog ZaO 16 [.agg (ZbD n), .v (.l I64) g, .v (.l I64) s] (fun V=>V= .tup [Zid none, .v (.i .i64) (ZdM n)]):=by
 refine Zaz Zaw Tryz.func16 ?_
 have hC:=Zln n hz
 refine Zae ?_
 refine Zbs ?_
 iterate 2 refine Zab ?_
 refine Zad ?_
 refine Zae ?_
 refine Zal rfl (fun _=>rfl) rfl rfl rfl ?_
 refine Zaf rfl ((hC).mono ?_)
 rintro _ rfl
 refine Zac rfl rfl ?_
 refine Zab ?_
 refine Zad ?_
 refine Zae ?_
 iterate 2 refine Zab ?_
 refine Zad ?_
 refine brT h ?_
 refine Zae ?_
 iterate 3 refine Zab ?_
 refine Zad ?_
 rfl
set_option maxHeartbeats 8000000 in
theorem Zrj (n:Ne.Net) (g s:List Int) (hz:Zce n) (h:(!decide (ZdM n=0))=false) (hl:((!decide ((g.length:Int)=(n.gens.length:Int)))||(!decide ((s.length:Int)=(n.stores.length:Int))))=true):PureOK Tryz.prog ZaO 16 [.agg (ZbD n), .v (.l I64) g, .v (.l I64) s] (fun V=>V= .tup [Zid none, .v (.i .i64) (3:Int)]):=by
 refine Zaz Zaw Tryz.func16 ?_
 have hC:=Zln n hz
 refine Zae ?_
 refine Zbs ?_
 iterate 2 refine Zab ?_
 refine Zad ?_
 refine Zae ?_
 refine Zal rfl (fun _=>rfl) rfl rfl rfl ?_
 refine Zaf rfl ((hC).mono ?_)
 rintro _ rfl
 refine Zac rfl rfl ?_
 refine Zab ?_
 refine Zad ?_
 refine Zae ?_
 iterate 2 refine Zab ?_
 refine Zad ?_
 refine brF h ?_
 cases l1:(!decide ((g.length:Int)=(n.gens.length:Int)))with
 |true=>
  refine Zae ?_
  iterate 3 refine Zab ?_
  refine Zal rfl (fun _=>rfl) rfl rfl rfl ?_
  iterate 3 refine Zab ?_
  refine Zag l1 ?_
  refine Zag l1 ?_
  refine Zag l1 ?_
  refine Zag l1 ?_
  refine Zag l1 ?_
  refine Zag l1 ?_
  refine Zaq l1 ?_
  refine Zad ?_
  refine brT rfl ?_
  refine Zae ?_
  iterate 2 refine Zab ?_
  refine Zad ?_
  rfl
 |false=>
  rw[l1,Bool.false_or]at hl
  refine Zae ?_
  iterate 3 refine Zab ?_
  refine Zal rfl (fun _=>rfl) rfl rfl rfl ?_
  iterate 3 refine Zab ?_
  refine Zaa l1 ?_
  refine Zaa l1 ?_
  refine Zaa l1 ?_
  refine Zai rfl rfl rfl l1 (fun _=>rfl) rfl rfl rfl ?_
  refine Zaa l1 ?_
  refine Zaa l1 ?_
  refine Zap l1 ?_
  refine Zad ?_
  refine brT hl ?_
  refine Zae ?_
  iterate 2 refine Zab ?_
  refine Zad ?_
  rfl
set_option maxHeartbeats 16000000 in
theorem Zjp (n:Ne.Net) (g s:List Int) (hz:Zce n) (h0:ZdM n=0) (hg:g.length=n.gens.length) (hs:s.length=n.stores.length):PureOK Tryz.prog ZaO 16 [.agg (ZbD n), .v (.l I64) g, .v (.l I64) s] (fun V=>V= .tup [Zid (Zn6 n g s).1, .v (.i .i64) (Zn6 n g s).2]):=by
 refine Zaz Zaw Tryz.func16 ?_
 have hC:=Zln n hz
 have hf:=ZeH h0
 have h:(!decide (ZdM n=0))=false:=by rw[h0];rfl
 obtain⟨b1,b2,b3,b4⟩:=ZbP hf.big
 have l1:(!decide ((g.length:Int)=(n.gens.length:Int)))=false:=by rw[hg];simp
 have l2:(!decide ((s.length:Int)=(n.stores.length:Int)))=false:=by rw[hs];simp
 have hmk:(0:Int)≤(n.nodes.length:Int)∧(n.nodes.length:Int)≤(n.nodes.length:Int)∧(8:Int)*(n.nodes.length:Int)≤281474976710656∧(n.nodes.length:Int)<9223372036854775808:=by omega
 have hz0:List.replicate ((n.nodes.length:Int).toNat) (0:Int)=n.nodes.map (ZaT []):=by
  rw[Int.toNat_natCast]
  exact(List.map_const' (l:=n.nodes) (b:=(0:Int))).symm
 have k1:=Ztd n g s [] (fun q hq=>absurd hq List.not_mem_nil) (Nat.zero_le _) hf hg
 have lG:(itG n.gens g).length≤10:=by rw[itG,List.length_zipWith];omega
 have lS:(itS n.stores s).length≤4:=by rw[itS,List.length_zipWith];omega
 refine Zae ?_
 refine Zbs ?_
 iterate 2 refine Zab ?_
 refine Zad ?_
 refine Zae ?_
 refine Zal rfl (fun _=>rfl) rfl rfl rfl ?_
 refine Zaf rfl ((hC).mono ?_)
 rintro _ rfl
 refine Zac rfl rfl ?_
 refine Zab ?_
 refine Zad ?_
 refine Zae ?_
 iterate 2 refine Zab ?_
 refine Zad ?_
 refine brF h ?_
 refine Zae ?_
 iterate 3 refine Zab ?_
 refine Zal rfl (fun _=>rfl) rfl rfl rfl ?_
 iterate 3 refine Zab ?_
 refine Zaa l1 ?_
 refine Zaa l1 ?_
 refine Zaa l1 ?_
 refine Zai rfl rfl rfl l1 (fun _=>rfl) rfl rfl rfl ?_
 refine Zaa l1 ?_
 refine Zaa l1 ?_
 refine Zap l1 ?_
 refine Zad ?_
 refine brF l2 ?_
 refine Zae ?_
 refine Zab ?_
 refine Zal rfl (fun _=>rfl) rfl rfl rfl ?_
 refine Zab ?_
 refine Zaf rfl (And.intro hmk ?_)
 refine Zac rfl rfl ?_
 refine Zab ?_
 refine Zad ?_
 refine Zae ?_
 refine Zab ?_
 refine Zal rfl (fun _=>rfl) rfl rfl rfl ?_
 iterate 2 refine Zab ?_
 refine Zad ?_
 refine(k1.ent ?_).through ?_
 ·exact ZaV [0,1] ⟨rfl,rfl,congrArg (fun z=>some (SM.row I64 z true)) hz0,rfl,trivial⟩ (by decide) ⟨rfl,Zas,rfl,Zas,rfl,ZaL (by show 0<2;omega),congrArg (fun z=>some (SV.ref 1 0 z none)) (Int.toNat_natCast _),Zbm (by show 1<2;omega),rfl,Zas,rfl,Zas,rfl,Zas,trivial⟩
 rintro _ tm hp' (⟨rfl,ha,hB,hE⟩|⟨rfl,ha,hE⟩)
 case inr=>
  refine⟨_,_,hE, ?_⟩
  rw[Zn6,ha];rfl
 have k2:=Zr1 n g s ([]++itG n.gens g) hB (by rw[List.nil_append];omega) hf hs
 refine⟨_,_,hE, ?_⟩
 show wp _ _ _ _ _ _ _ _ _
 refine Zae ?_
 refine Zab ?_
 refine Zal rfl (fun _=>rfl) rfl rfl rfl ?_
 iterate 2 refine Zab ?_
 refine Zad ?_
 refine(k2.ent ?_).through ?_
 ·exact Zah ⟨rfl,rfl,rfl,rfl,rfl,rfl,rfl,trivial⟩
 rintro _ tm hp' (⟨rfl,ha2,hB,hE⟩|⟨rfl,ha2,hE⟩)
 case inr=>
  refine⟨_,_,hE, ?_⟩
  rw[Zn6,ha,ha2];rfl
 have k3:=Ztg n g s ([]++itG n.gens g++itS n.stores s) hB (by rw[List.length_append,List.nil_append];omega) hf
 refine⟨_,_,hE, ?_⟩
 show wp _ _ _ _ _ _ _ _ _
 refine Zae ?_
 refine Zab ?_
 refine Zal rfl (fun _=>rfl) rfl rfl rfl ?_
 iterate 2 refine Zab ?_
 refine Zad ?_
 refine(k3.ent ?_).through ?_
 ·exact Zah ⟨rfl,rfl,rfl,rfl,rfl,rfl,rfl,trivial⟩
 rintro _ tm hp' ⟨rfl,hB,hE⟩
 refine⟨_,_,hE, ?_⟩
 show wp _ _ _ _ _ _ _ _ _
 have hlR:(n.nodes.map (ZaT (ZhP n g s))).length=n.nodes.length:=List.length_map ..
 have k4:=ZsA (n.nodes.map (ZaT (ZhP n g s))) (hJ n (ZhP n g s)) rfl (by omega)
 rw[hlR]at k4
 refine Zae ?_
 iterate 3 refine Zab ?_
 refine Zad ?_
 refine(k4.ent ?_).through ?_
 ·exact Zah ⟨rfl,rfl,rfl,rfl,trivial⟩
 rintro _ tm hp' (⟨rfl,ha3,hE⟩|⟨rfl,ha3,hE⟩)
 case inr=>
  refine⟨_,_,hE, ?_⟩
  rw[Zn6,ha,ha2,ha3];rfl
 refine⟨_,_,hE, ?_⟩
 show wp _ _ _ _ _ _ _ _ _
 rw[Zn6,ha,ha2,ha3]
 refine Zae ?_
 iterate 3 refine Zab ?_
 refine Zad ?_
 refine⟨Nat.le_of_eq ((Nat.zero_add _).trans hlR.symm), ?_⟩
 exact congrArg (fun z=>SV.tup [.v (.l I64) z, .v (.i .i64) (0:Int)]) (Zfs hlR)
end Go.Proofs.YtgmjnhiakpcpbaaGreatDoor
