/-
 The law FlowInjects: its whole. (Printed by tools/genlawf.py.)
-/
import Derived.Test.YtgmjnhiakpcpbaaGreatDoorF4
set_option linter.constructorNameAsVariable false
set_option linter.unusedSimpArgs false
set_option linter.unusedVariables false
namespace Go.Proofs.YtgmjnhiakpcpbaaGreatDoor
open Go.Am Go.Tx Ne
set_option maxRecDepth 100000
theorem Zku:PureOK Tryz.prog ZaO 15 [] (fun V=>V= .v .b true):=by
 refine⟨fun qs hr=> ?_⟩
 simp only[RL]at hr
 subst hr
 refine⟨.bool true, .v .b true, ?_,by simp only[RV,RR],rfl⟩
 unfold Zbu
 rfl
set_option maxHeartbeats 8000000 in
theorem Zuw (n:Ne.Net) (g s:List Int) (hz:Zce n) (h:(!decide (ZdM n=0))=true):PureOK Tryz.prog ZaO 4 [.agg (ZbD n), .v (.l I64) g, .v (.l I64) s] (fun V=>V= .v .b true):=by
 refine Zaz Zaw Tryz.func4 ?_
 have hJ:=Zqz n g s hz h
 have hN:=Zdh n
 generalize ZdM n=e at*
 have hq:decide (e=0)=false:=by simpa using h
 have hee:decide (e=e)=true:=decide_eq_true rfl
 refine Zae ?_
 refine Zbs ?_
 refine Zab ?_
 refine Zad ?_
 refine Zae ?_
 refine Zaf rfl ((Zku).mono ?_)
 rintro _ rfl
 refine Zac rfl rfl ?_
 refine Zab ?_
 refine Zad ?_
 refine brF rfl ?_
 refine Zae ?_
 refine Zal rfl (fun _=>rfl) rfl rfl rfl ?_
 iterate 2 refine Zab ?_
 refine Zaf rfl ((hJ).mono ?_)
 rintro _ rfl
 refine Zac rfl rfl ?_
 iterate 5 refine Zab ?_
 refine Zad ?_
 refine Zae ?_
 refine Zal rfl (fun _=>rfl) rfl rfl rfl ?_
 refine Zaf rfl ((hN).mono ?_)
 rintro _ rfl
 refine Zac rfl rfl ?_
 refine Zab ?_
 refine Zad ?_
 refine Zae ?_
 iterate 3 refine Zab ?_
 refine Zag hq ?_
 refine Zag hq ?_
 refine Zag hq ?_
 refine Zag hq ?_
 refine Zag hq ?_
 refine Zag hq ?_
 refine Zag hq ?_
 refine Zgh ?_
 refine Zgh ?_
 refine Zgh ?_
 refine Zgh ?_
 refine Zgh ?_
 refine Zgh ?_
 refine Zag hq ?_
 refine Zap hq ?_
 refine Zad ?_
 refine brF rfl ?_
 refine Zae ?_
 refine Zab ?_
 refine Zad ?_
 refine Zae ?_
 iterate 2 refine Zab ?_
 refine Zad ?_
 refine brF hq ?_
 refine Zae ?_
 iterate 2 refine Zab ?_
 refine Zad ?_
 refine brF hq ?_
 refine Zae ?_
 iterate 2 refine Zab ?_
 refine Zad ?_
 refine brT h ?_
 refine Zae ?_
 iterate 4 refine Zab ?_
 refine Zaa hee ?_
 refine Zaa hee ?_
 refine Zaa hee ?_
 refine Zaq hee ?_
 refine Zab ?_
 refine Zad ?_
 rfl
set_option maxHeartbeats 8000000 in
theorem Zuz (n:Ne.Net) (g s:List Int) (hz:Zce n) (h0:ZdM n=0) (hl:((!decide ((g.length:Int)=(n.gens.length:Int)))||(!decide ((s.length:Int)=(n.stores.length:Int))))=true):PureOK Tryz.prog ZaO 4 [.agg (ZbD n), .v (.l I64) g, .v (.l I64) s] (fun V=>V= .v .b true):=by
 refine Zaz Zaw Tryz.func4 ?_
 have hJ:=Zrj n g s hz (by rw[h0];rfl) hl
 have hN:=Zdh n
 rw[h0]at hN
 refine Zae ?_
 refine Zbs ?_
 refine Zab ?_
 refine Zad ?_
 refine Zae ?_
 refine Zaf rfl ((Zku).mono ?_)
 rintro _ rfl
 refine Zac rfl rfl ?_
 refine Zab ?_
 refine Zad ?_
 refine brF rfl ?_
 refine Zae ?_
 refine Zal rfl (fun _=>rfl) rfl rfl rfl ?_
 iterate 2 refine Zab ?_
 refine Zaf rfl ((hJ).mono ?_)
 rintro _ rfl
 refine Zac rfl rfl ?_
 iterate 5 refine Zab ?_
 refine Zad ?_
 refine Zae ?_
 refine Zal rfl (fun _=>rfl) rfl rfl rfl ?_
 refine Zaf rfl ((hN).mono ?_)
 rintro _ rfl
 refine Zac rfl rfl ?_
 refine Zab ?_
 refine Zad ?_
 cases l1:(!decide ((g.length:Int)=(n.gens.length:Int)))with
 |true=>
  refine Zae ?_
  iterate 3 refine Zab ?_
  refine Zaa rfl ?_
  refine Zaa rfl ?_
  refine Zaa rfl ?_
  refine Zai rfl rfl rfl rfl (fun _=>rfl) rfl rfl rfl ?_
  refine Zaa rfl ?_
  refine Zaa rfl ?_
  refine Zaa rfl ?_
  refine Zag l1 ?_
  refine Zag l1 ?_
  refine Zag l1 ?_
  refine Zag l1 ?_
  refine Zag l1 ?_
  refine Zag l1 ?_
  refine Zbw rfl rfl rfl rfl rfl rfl l1 rfl rfl rfl ?_
  refine Zaq rfl ?_
  refine Zad ?_
  refine brT rfl ?_
  refine Zae ?_
  refine Zab ?_
  refine Zad ?_
  refine Zae ?_
  refine Zab ?_
  refine Zad ?_
  refine Zae ?_
  iterate 2 refine Zab ?_
  refine Zad ?_
  refine And.intro (fun h=>absurd (show false=true from h) Bool.false_ne_true) (fun _=> ?_)
  refine Zae ?_
  iterate 2 refine Zab ?_
  refine Zad ?_
  refine And.intro (fun h=>absurd (show false=true from h) Bool.false_ne_true) (fun _=> ?_)
  refine Zae ?_
  iterate 2 refine Zab ?_
  refine Zad ?_
  refine And.intro (fun _=> ?_) (fun h=>absurd (show true=false from h) (fun e=>Bool.false_ne_true e.symm))
  refine Zae ?_
  iterate 4 refine Zab ?_
  refine Zaa rfl ?_
  refine Zaa rfl ?_
  refine Zaa rfl ?_
  refine Zaq rfl ?_
  refine Zab ?_
  refine Zad ?_
  rfl
 |false=>
  rw[l1,Bool.false_or]at hl
  refine Zae ?_
  iterate 3 refine Zab ?_
  refine Zaa rfl ?_
  refine Zaa rfl ?_
  refine Zaa rfl ?_
  refine Zai rfl rfl rfl rfl (fun _=>rfl) rfl rfl rfl ?_
  refine Zaa rfl ?_
  refine Zaa rfl ?_
  refine Zaa rfl ?_
  refine Zaa l1 ?_
  refine Zaa l1 ?_
  refine Zaa l1 ?_
  refine Zai rfl rfl rfl l1 (fun _=>rfl) rfl rfl rfl ?_
  refine Zaa l1 ?_
  refine Zaa l1 ?_
  refine Zbq rfl rfl rfl rfl rfl rfl l1 rfl rfl rfl ?_
  refine Zaq rfl ?_
  refine Zad ?_
  refine brT hl ?_
  refine Zae ?_
  refine Zab ?_
  refine Zad ?_
  refine Zae ?_
  refine Zab ?_
  refine Zad ?_
  refine Zae ?_
  iterate 2 refine Zab ?_
  refine Zad ?_
  refine And.intro (fun h=>absurd (show false=true from h) Bool.false_ne_true) (fun _=> ?_)
  refine Zae ?_
  iterate 2 refine Zab ?_
  refine Zad ?_
  refine And.intro (fun h=>absurd (show false=true from h) Bool.false_ne_true) (fun _=> ?_)
  refine Zae ?_
  iterate 2 refine Zab ?_
  refine Zad ?_
  refine And.intro (fun _=> ?_) (fun h=>absurd (show true=false from h) (fun e=>Bool.false_ne_true e.symm))
  refine Zae ?_
  iterate 4 refine Zab ?_
  refine Zaa rfl ?_
  refine Zaa rfl ?_
  refine Zaa rfl ?_
  refine Zaq rfl ?_
  refine Zab ?_
  refine Zad ?_
  rfl
set_option maxHeartbeats 16000000 in
theorem ZrA (n:Ne.Net) (g s:List Int) (hz:Zce n) (h0:ZdM n=0) (hg:g.length=n.gens.length) (hs:s.length=n.stores.length) (hk:(Zl5 n.gens g&&Zo5 n.stores s)=false):PureOK Tryz.prog ZaO 4 [.agg (ZbD n), .v (.l I64) g, .v (.l I64) s] (fun V=>V= .v .b true):=by
 refine Zaz Zaw Tryz.func4 ?_
 have hJ:=Zjp n g s hz h0 hg hs
 rw[show Zn6 n g s=(none,17)by rw[Zn6,hk];rfl]at hJ
 have hf:=ZeH h0
 have k1:=ZlH n g s (none) (17) true hf hg
 have k2:=ZlI n g s (none) (17) (true&&Zl5 n.gens g) hf hs
 have hf:=ZeH h0
 have hN:=Zdh n
 rw[h0]at hN
 have l1:(!decide ((g.length:Int)=(n.gens.length:Int)))=false:=by rw[hg];simp
 have l2:(!decide ((s.length:Int)=(n.stores.length:Int)))=false:=by rw[hs];simp
 refine Zae ?_
 refine Zbs ?_
 refine Zab ?_
 refine Zad ?_
 refine Zae ?_
 refine Zaf rfl ((Zku).mono ?_)
 rintro _ rfl
 refine Zac rfl rfl ?_
 refine Zab ?_
 refine Zad ?_
 refine brF rfl ?_
 refine Zae ?_
 refine Zal rfl (fun _=>rfl) rfl rfl rfl ?_
 iterate 2 refine Zab ?_
 refine Zaf rfl ((hJ).mono ?_)
 rintro _ rfl
 refine Zac rfl rfl ?_
 iterate 5 refine Zab ?_
 refine Zad ?_
 refine Zae ?_
 refine Zal rfl (fun _=>rfl) rfl rfl rfl ?_
 refine Zaf rfl ((hN).mono ?_)
 rintro _ rfl
 refine Zac rfl rfl ?_
 refine Zab ?_
 refine Zad ?_
 refine Zae ?_
 iterate 3 refine Zab ?_
 refine Zaa rfl ?_
 refine Zaa rfl ?_
 refine Zaa rfl ?_
 refine Zai rfl rfl rfl rfl (fun _=>rfl) rfl rfl rfl ?_
 refine Zaa rfl ?_
 refine Zaa rfl ?_
 refine Zaa rfl ?_
 refine Zaa l1 ?_
 refine Zaa l1 ?_
 refine Zaa l1 ?_
 refine Zai rfl rfl rfl l1 (fun _=>rfl) rfl rfl rfl ?_
 refine Zaa l1 ?_
 refine Zaa l1 ?_
 refine Zbq rfl rfl rfl rfl rfl rfl l1 rfl rfl rfl ?_
 refine Zaq rfl ?_
 refine Zad ?_
 refine brF l2 ?_
 refine Zae ?_
 refine Zab ?_
 refine Zad ?_
 refine Zae ?_
 iterate 2 refine Zab ?_
 refine Zad ?_
 refine And.intro (fun _=> ?_) (fun h=>absurd (show true=false from h) (fun e=>Bool.false_ne_true e.symm))
 refine Zae ?_
 refine Zab ?_
 refine Zal rfl (fun _=>rfl) rfl rfl rfl ?_
 iterate 2 refine Zab ?_
 refine Zad ?_
 refine(k1.ent ?_).through ?_
 ·exact Zah ⟨rfl,rfl,rfl,rfl,rfl,rfl,rfl,rfl,rfl,rfl,trivial⟩
 rintro _ tm hp' ⟨rfl,hE⟩
 refine⟨_,_,hE, ?_⟩
 show wp _ _ _ _ _ _ _ _ _
 refine Zae ?_
 refine Zab ?_
 refine Zal rfl (fun _=>rfl) rfl rfl rfl ?_
 iterate 2 refine Zab ?_
 refine Zad ?_
 refine(k2.ent ?_).through ?_
 ·exact Zah ⟨rfl,rfl,rfl,rfl,rfl,rfl,rfl,rfl,rfl,rfl,trivial⟩
 rintro _ tm hp' ⟨rfl,hE⟩
 refine⟨_,_,hE, ?_⟩
 show wp _ _ _ _ _ _ _ _ _
 rw[Bool.true_and,hk]
 refine Zae ?_
 iterate 2 refine Zab ?_
 refine Zad ?_
 refine And.intro (fun h=>absurd (show false=true from h) Bool.false_ne_true) (fun _=> ?_)
 refine Zae ?_
 iterate 2 refine Zab ?_
 refine Zad ?_
 refine And.intro (fun _=> ?_) (fun h=>absurd (show true=false from h) (fun e=>Bool.false_ne_true e.symm))
 refine Zae ?_
 iterate 4 refine Zab ?_
 refine Zaa rfl ?_
 refine Zaa rfl ?_
 refine Zaa rfl ?_
 refine Zaq rfl ?_
 refine Zab ?_
 refine Zad ?_
 rfl
set_option maxHeartbeats 16000000 in
theorem ZtB (n:Ne.Net) (g s:List Int) (hz:Zce n) (h0:ZdM n=0) (hg:g.length=n.gens.length) (hs:s.length=n.stores.length) (hk1:Zl5 n.gens g=true) (hk2:Zo5 n.stores s=true) (hr:(Za6 n g s).any ZbE=true):PureOK Tryz.prog ZaO 4 [.agg (ZbD n), .v (.l I64) g, .v (.l I64) s] (fun V=>V= .v .b true):=by
 refine Zaz Zaw Tryz.func4 ?_
 have hJ:=Zjp n g s hz h0 hg hs
 have hr':(n.nodes.map (ZaT (ZhP n g s))).any ZbE=true:=hr
 rw[show Zn6 n g s=(none,4)by rw[Zn6,hk1,hk2,hr'];rfl]at hJ
 have hf:=ZeH h0
 have k1:=ZlH n g s (none) (4) true hf hg
 have k2:=ZlI n g s (none) (4) (true&&Zl5 n.gens g) hf hs
 have k3:=ZoZ n g s none 4 hf hg hs hk1 hk2
 have hf:=ZeH h0
 have hN:=Zdh n
 rw[h0]at hN
 have l1:(!decide ((g.length:Int)=(n.gens.length:Int)))=false:=by rw[hg];simp
 have l2:(!decide ((s.length:Int)=(n.stores.length:Int)))=false:=by rw[hs];simp
 refine Zae ?_
 refine Zbs ?_
 refine Zab ?_
 refine Zad ?_
 refine Zae ?_
 refine Zaf rfl ((Zku).mono ?_)
 rintro _ rfl
 refine Zac rfl rfl ?_
 refine Zab ?_
 refine Zad ?_
 refine brF rfl ?_
 refine Zae ?_
 refine Zal rfl (fun _=>rfl) rfl rfl rfl ?_
 iterate 2 refine Zab ?_
 refine Zaf rfl ((hJ).mono ?_)
 rintro _ rfl
 refine Zac rfl rfl ?_
 iterate 5 refine Zab ?_
 refine Zad ?_
 refine Zae ?_
 refine Zal rfl (fun _=>rfl) rfl rfl rfl ?_
 refine Zaf rfl ((hN).mono ?_)
 rintro _ rfl
 refine Zac rfl rfl ?_
 refine Zab ?_
 refine Zad ?_
 refine Zae ?_
 iterate 3 refine Zab ?_
 refine Zaa rfl ?_
 refine Zaa rfl ?_
 refine Zaa rfl ?_
 refine Zai rfl rfl rfl rfl (fun _=>rfl) rfl rfl rfl ?_
 refine Zaa rfl ?_
 refine Zaa rfl ?_
 refine Zaa rfl ?_
 refine Zaa l1 ?_
 refine Zaa l1 ?_
 refine Zaa l1 ?_
 refine Zai rfl rfl rfl l1 (fun _=>rfl) rfl rfl rfl ?_
 refine Zaa l1 ?_
 refine Zaa l1 ?_
 refine Zbq rfl rfl rfl rfl rfl rfl l1 rfl rfl rfl ?_
 refine Zaq rfl ?_
 refine Zad ?_
 refine brF l2 ?_
 refine Zae ?_
 refine Zab ?_
 refine Zad ?_
 refine Zae ?_
 iterate 2 refine Zab ?_
 refine Zad ?_
 refine And.intro (fun _=> ?_) (fun h=>absurd (show true=false from h) (fun e=>Bool.false_ne_true e.symm))
 refine Zae ?_
 refine Zab ?_
 refine Zal rfl (fun _=>rfl) rfl rfl rfl ?_
 iterate 2 refine Zab ?_
 refine Zad ?_
 refine(k1.ent ?_).through ?_
 ·exact Zah ⟨rfl,rfl,rfl,rfl,rfl,rfl,rfl,rfl,rfl,rfl,trivial⟩
 rintro _ tm hp' ⟨rfl,hE⟩
 refine⟨_,_,hE, ?_⟩
 show wp _ _ _ _ _ _ _ _ _
 refine Zae ?_
 refine Zab ?_
 refine Zal rfl (fun _=>rfl) rfl rfl rfl ?_
 iterate 2 refine Zab ?_
 refine Zad ?_
 refine(k2.ent ?_).through ?_
 ·exact Zah ⟨rfl,rfl,rfl,rfl,rfl,rfl,rfl,rfl,rfl,rfl,trivial⟩
 rintro _ tm hp' ⟨rfl,hE⟩
 refine⟨_,_,hE, ?_⟩
 show wp _ _ _ _ _ _ _ _ _
 rw[Bool.true_and,hk1,hk2]
 refine Zae ?_
 iterate 2 refine Zab ?_
 refine Zad ?_
 refine And.intro (fun _=> ?_) (fun h=>absurd (show true=false from h) (fun e=>Bool.false_ne_true e.symm))
 refine Zae ?_
 refine Zab ?_
 refine Zal rfl (fun _=>rfl) rfl rfl rfl ?_
 iterate 2 refine Zab ?_
 refine Zad ?_
 refine(k3.ent ?_).through ?_
 ·refine Ent.trans (tm1:=[(1, .v (.l I64) g),(2, .v (.l I64) s),(3, .ptr 0 0 0),(7,Zid (none)),(8, .v (.i .i64) (4:Int)),(9, .v (.i .i64) (0:Int)),(10, .nils),(118, .v (.l .s) n.nodes),(119,nt n.nodes.length),(120,nt 0)]) (hp1:=[.cell (ZbD n) true]) (Zah ⟨rfl,rfl,rfl,rfl,rfl,rfl,rfl,rfl,rfl,rfl,trivial⟩) ?_
  refine ZiZ (k:=10) (Nat.zero_le _) rfl (fun a V ha h=> ?_) rfl
  have hb:Nat.beq a 10=false:=by
   cases hb:Nat.beq a 10 with
   |true=>exact absurd (Nat.eq_of_beq_eq_true hb) ha
   |false=>rfl
  simp only[zN,Zcp,hb]at h⊢
  exact h
 rintro _ tm hp' ⟨rfl,hE⟩
 refine⟨_,_,hE, ?_⟩
 show wp _ _ _ _ _ _ _ _ _
 rw[hr]
 refine Zae ?_
 iterate 2 refine Zab ?_
 refine Zad ?_
 refine And.intro (fun _=> ?_) (fun h=>absurd (show true=false from h) (fun e=>Bool.false_ne_true e.symm))
 refine Zae ?_
 iterate 4 refine Zab ?_
 refine Zaa rfl ?_
 refine Zaa rfl ?_
 refine Zaa rfl ?_
 refine Zaq rfl ?_
 refine Zab ?_
 refine Zad ?_
 rfl
set_option maxHeartbeats 16000000 in
theorem ZuB (n:Ne.Net) (g s:List Int) (hz:Zce n) (h0:ZdM n=0) (hg:g.length=n.gens.length) (hs:s.length=n.stores.length) (hk1:Zl5 n.gens g=true) (hk2:Zo5 n.stores s=true) (hr:(Za6 n g s).any ZbE=false):PureOK Tryz.prog ZaO 4 [.agg (ZbD n), .v (.l I64) g, .v (.l I64) s] (fun V=>V= .v .b true):=by
 refine Zaz Zaw Tryz.func4 ?_
 have hJ:=Zjp n g s hz h0 hg hs
 have hr':(n.nodes.map (ZaT (ZhP n g s))).any ZbE=false:=hr
 rw[show Zn6 n g s=(some (Za6 n g s),0)by rw[Zn6,hk1,hk2,hr'];rfl]at hJ
 have hf:=ZeH h0
 have k1:=ZlH n g s (some (Za6 n g s)) (0) true hf hg
 have k2:=ZlI n g s (some (Za6 n g s)) (0) (true&&Zl5 n.gens g) hf hs
 have k3:=ZoZ n g s (some (Za6 n g s)) 0 hf hg hs hk1 hk2
 have hlen:(Za6 n g s).length=n.nodes.length:=List.length_map ..
 obtain⟨b1,b2,b3,b4⟩:=ZbP hf.big
 have hQ:=Zrp (Za6 n g s) (Za6 n g s) (by omega)
 have hQ:PureOK Tryz.prog ZaO 17 [.v (.l I64) (Za6 n g s), .v (.l I64) (sub (Za6 n g s) 0 (Za6 n g s).length)] (fun V=>V= .v .b (decide (Za6 n g s=Za6 n g s))):=by rw[Zfs rfl];exact hQ
 have hf:=ZeH h0
 have hN:=Zdh n
 rw[h0]at hN
 have l1:(!decide ((g.length:Int)=(n.gens.length:Int)))=false:=by rw[hg];simp
 have l2:(!decide ((s.length:Int)=(n.stores.length:Int)))=false:=by rw[hs];simp
 refine Zae ?_
 refine Zbs ?_
 refine Zab ?_
 refine Zad ?_
 refine Zae ?_
 refine Zaf rfl ((Zku).mono ?_)
 rintro _ rfl
 refine Zac rfl rfl ?_
 refine Zab ?_
 refine Zad ?_
 refine brF rfl ?_
 refine Zae ?_
 refine Zal rfl (fun _=>rfl) rfl rfl rfl ?_
 iterate 2 refine Zab ?_
 refine Zaf rfl ((hJ).mono ?_)
 rintro _ rfl
 refine Zac rfl rfl ?_
 iterate 5 refine Zab ?_
 refine Zad ?_
 refine Zae ?_
 refine Zal rfl (fun _=>rfl) rfl rfl rfl ?_
 refine Zaf rfl ((hN).mono ?_)
 rintro _ rfl
 refine Zac rfl rfl ?_
 refine Zab ?_
 refine Zad ?_
 refine Zae ?_
 iterate 3 refine Zab ?_
 refine Zaa rfl ?_
 refine Zaa rfl ?_
 refine Zaa rfl ?_
 refine Zai rfl rfl rfl rfl (fun _=>rfl) rfl rfl rfl ?_
 refine Zaa rfl ?_
 refine Zaa rfl ?_
 refine Zaa rfl ?_
 refine Zaa l1 ?_
 refine Zaa l1 ?_
 refine Zaa l1 ?_
 refine Zai rfl rfl rfl l1 (fun _=>rfl) rfl rfl rfl ?_
 refine Zaa l1 ?_
 refine Zaa l1 ?_
 refine Zbq rfl rfl rfl rfl rfl rfl l1 rfl rfl rfl ?_
 refine Zaq rfl ?_
 refine Zad ?_
 refine brF l2 ?_
 refine Zae ?_
 refine Zab ?_
 refine Zad ?_
 refine Zae ?_
 iterate 2 refine Zab ?_
 refine Zad ?_
 refine And.intro (fun _=> ?_) (fun h=>absurd (show true=false from h) (fun e=>Bool.false_ne_true e.symm))
 refine Zae ?_
 refine Zab ?_
 refine Zal rfl (fun _=>rfl) rfl rfl rfl ?_
 iterate 2 refine Zab ?_
 refine Zad ?_
 refine(k1.ent ?_).through ?_
 ·exact Zah ⟨rfl,rfl,rfl,rfl,rfl,rfl,rfl,rfl,rfl,rfl,trivial⟩
 rintro _ tm hp' ⟨rfl,hE⟩
 refine⟨_,_,hE, ?_⟩
 show wp _ _ _ _ _ _ _ _ _
 refine Zae ?_
 refine Zab ?_
 refine Zal rfl (fun _=>rfl) rfl rfl rfl ?_
 iterate 2 refine Zab ?_
 refine Zad ?_
 refine(k2.ent ?_).through ?_
 ·exact Zah ⟨rfl,rfl,rfl,rfl,rfl,rfl,rfl,rfl,rfl,rfl,trivial⟩
 rintro _ tm hp' ⟨rfl,hE⟩
 refine⟨_,_,hE, ?_⟩
 show wp _ _ _ _ _ _ _ _ _
 rw[Bool.true_and,hk1,hk2]
 refine Zae ?_
 iterate 2 refine Zab ?_
 refine Zad ?_
 refine And.intro (fun _=> ?_) (fun h=>absurd (show true=false from h) (fun e=>Bool.false_ne_true e.symm))
 refine Zae ?_
 refine Zab ?_
 refine Zal rfl (fun _=>rfl) rfl rfl rfl ?_
 iterate 2 refine Zab ?_
 refine Zad ?_
 refine(k3.ent ?_).through ?_
 ·refine Ent.trans (tm1:=[(1, .v (.l I64) g),(2, .v (.l I64) s),(3, .ptr 0 0 0),(7,Zid (some (Za6 n g s))),(8, .v (.i .i64) (0:Int)),(9, .v (.i .i64) (0:Int)),(10, .nils),(118, .v (.l .s) n.nodes),(119,nt n.nodes.length),(120,nt 0)]) (hp1:=[.cell (ZbD n) true]) (Zah ⟨rfl,rfl,rfl,rfl,rfl,rfl,rfl,rfl,rfl,rfl,trivial⟩) ?_
  refine ZiZ (k:=10) (Nat.zero_le _) rfl (fun a V ha h=> ?_) rfl
  have hb:Nat.beq a 10=false:=by
   cases hb:Nat.beq a 10 with
   |true=>exact absurd (Nat.eq_of_beq_eq_true hb) ha
   |false=>rfl
  simp only[zN,Zcp,hb]at h⊢
  exact h
 rintro _ tm hp' ⟨rfl,hE⟩
 refine⟨_,_,hE, ?_⟩
 show wp _ _ _ _ _ _ _ _ _
 rw[hr]
 refine Zae ?_
 iterate 2 refine Zab ?_
 refine Zad ?_
 refine And.intro (fun h=>absurd (show false=true from h) Bool.false_ne_true) (fun _=> ?_)
 refine Zae ?_
 iterate 3 refine Zab ?_
 refine Zaa rfl ?_
 refine Zaa rfl ?_
 refine Zao rfl rfl rfl rfl (And.intro (Nat.le_of_eq (Nat.zero_add _)) (hQ.mono ?_))
 rintro _ rfl
 refine Zac rfl rfl ?_
 refine Zaq rfl ?_
 refine Zab ?_
 refine Zad ?_
 exact congrArg (fun x=>SV.v .b x) (decide_eq_true rfl)
theorem Zjg (n:Ne.Net) (g s:List Int) (hz:Zce n):PureOK Tryz.prog ZaO 4 [.agg (ZbD n), .v (.l I64) g, .v (.l I64) s] (fun V=>V= .v .b true):=by
 cases h:(!decide (ZdM n=0))with
 |true=>exact Zuw n g s hz h
 |false=>
  have h0:ZdM n=0:=by simpa using h
  cases hl:((!decide ((g.length:Int)=(n.gens.length:Int)))||(!decide ((s.length:Int)=(n.stores.length:Int))))with
  |true=>exact Zuz n g s hz h0 hl
  |false=>
   have hl2:g.length=n.gens.length∧s.length=n.stores.length:=by
    simp only[Bool.or_eq_false_iff,Bool.not_eq_false',decide_eq_true_eq]at hl
    omega
   cases hk1:Zl5 n.gens g with
   |false=>exact ZrA n g s hz h0 hl2.1 hl2.2 (by rw[hk1];rfl)
   |true=>cases hk2:Zo5 n.stores s with
    |false=>exact ZrA n g s hz h0 hl2.1 hl2.2 (by rw[hk2,Bool.and_false])
    |true=>cases hr:(Za6 n g s).any ZbE with
     |true=>exact ZtB n g s hz h0 hl2.1 hl2.2 hk1 hk2 hr
     |false=>exact ZuB n g s hz h0 hl2.1 hl2.2 hk1 hk2 hr
end Go.Proofs.YtgmjnhiakpcpbaaGreatDoor
