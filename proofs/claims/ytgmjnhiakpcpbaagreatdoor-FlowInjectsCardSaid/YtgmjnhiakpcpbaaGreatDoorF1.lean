/-
 flow.Inject. (Printed by tools/geninj.py.)
-/
import Derived.Test.YtgmjnhiakpcpbaaGreatDoorUB
set_option linter.constructorNameAsVariable false
set_option linter.unusedSimpArgs false
set_option linter.unusedVariables false
namespace Go.Proofs.YtgmjnhiakpcpbaaGreatDoor
open Go.Am Go.Tx Ne
set_option maxRecDepth 100000
abbrev gCT:CT:= .p .s (.p .s (.p (.i .i64) (.p (.i .i64) (.i .i64))))
abbrev dCT:CT:= .p .s (.p .s (.i .i64))
abbrev I64:CT:= .i .i64
def hJ (n:Ne.Net) (it:List (Txt×Int)):List SM:=[.cell (ZbD n) true, .row I64 (n.nodes.map (ZaT it)) true]
abbrev zJ (n:Ne.Net) (g s:List Int):TM:=[(1, .v (.l I64) g),(2, .v (.l I64) s),(3, .ptr 0 0 0),(9, .ref 1 0 n.nodes.length none)]
abbrev Bd (it:List (Txt×Int)):Prop:= ∀q∈it,-1000000≤q.2∧q.2≤1000000
theorem Zi4 {it:List (Txt×Int)} {q:Txt×Int} (h:Bd it) (hq: -1000000≤q.2∧q.2≤1000000):Bd (it++ [q]):=fun r hr=>by
 rcases List.mem_append.1 hr with hr|hr
 ·exact h r hr
 ·rw[List.mem_singleton.1 hr];exact hq
theorem Zox {a b:List (Txt×Int)} (h:Bd a) (hq:Bd b):Bd (a++b):=fun r hr=>by
 rcases List.mem_append.1 hr with hr|hr
 ·exact h r hr
 ·exact hq r hr
theorem ZuW {n:Ne.Net} (hf:Fine n):n.nodes.Nodup:=(List.nodup_append.1 hf.nd).1
theorem ZbP {n:Ne.Net} (hb:big n=false):n.nodes.length≤24∧n.gens.length≤10∧n.loads.length≤12∧n.stores.length≤4:=by
 simp only[big,Bool.or_eq_false_iff,decide_eq_false_iff_not]at hb
 obtain⟨b1,b2,b3,b4,b5,b6⟩:=hb
 omega
theorem Zmp {n:Ne.Net} (hf:Fine n) {it:List (Txt×Int)} {t:Txt} {v:Int} (ht:t∈n.nodes) (hi:Bd it) (hl:it.length≤900) (hv: -1000000≤v∧v≤1000000):
 ∃j:Nat,ZbS t n.nodes 0=(j:Int)∧((0:Int)≤(j:Int)∧(j:Int)<((n.nodes.length:Nat):Int))∧(n.nodes.map (ZaT it))[0+(j:Int).toNat]? =some (ZaT it t)∧(n.nodes.map (ZaT it)).set (0+(j:Int).toNat) (IntKind.i64.wrap (ZaT it t+v))=n.nodes.map (ZaT (it++ [(t,v)])):=by
 obtain⟨j,j1,j2,j3,j4⟩:=ZoH (f:=ZaT it) (t:=t) (v:=ZaT it t+v) 0 (ZuW hf) ht
 have hb:=Zfl t (Nat.le_trans hl (by decide)) hi
 refine⟨j,by rw[j1,Nat.zero_add],cin j2,by rw[Nat.zero_add,Int.toNat_natCast];exact j3, ?_⟩
 rw[Zdf (by omega) (by omega),Nat.zero_add,Int.toNat_natCast,j4]
 refine List.map_congr_left fun s _=> ?_
 rw[Zb1]
 cases h:(t==s)with
 |true=>rw[←eq_of_beq h]
 |false=>rfl
theorem ZbU {α:Type} {l:List α} {i:Nat} (h:i<l.length): ∃x,l[i]? =some x∧l[(i:Int).toNat]? =some x:=⟨l[i],List.getElem?_eq_getElem h,by rw[Int.toNat_natCast];exact List.getElem?_eq_getElem h⟩
def ziG (n:Ne.Net) (g s:List Int) (i:Nat):TM:=[(1, .v (.l I64) g),(2, .v (.l I64) s),(3, .ptr 0 0 0),(9, .ref 1 0 n.nodes.length none),(42, .v (.l gCT) n.gens),(43,nt n.gens.length),(44,nt i)]
set_option maxHeartbeats 16000000 in
theorem Ztd (n:Ne.Net) (g s:List Int) (p0:List (Txt×Int)) (hp0:Bd p0) (hl0:p0.length≤100) (hf:Fine n) (hg:g.length=n.gens.length):
 LoopOK Tryz.prog ZaO 0 ⟨16,0,161⟩ (Zbd Tryz.f16 8) (ziG n g s 0) (hJ n p0)
 (fun e tm hp'=>(e= .exit 0∧Zl5 n.gens g=true∧Bd (p0++itG n.gens g)∧Ent 0 tm hp' (zJ n g s) (hJ n (p0++itG n.gens g)))∨(e= .ret∧Zl5 n.gens g=false∧Ent 0 tm hp' [(6, .nils),(7, .v (.i .i64) (17:Int))] [])):=by
 obtain⟨b1,b2,b3,b4⟩:=ZbP hf.big
 refine ZaH Zaw rfl (ziG n g s) (fun i=>hJ n (p0++(itG n.gens g).take i)) (fun i=>i≤n.gens.length∧Zl5 n.gens g=((List.zipWith okG n.gens g).drop i).all id∧Bd (p0++(itG n.gens g).take i)) (fun i=>n.gens.length-i) ?_ 0 ⟨Nat.zero_le _,rfl,by rw[List.take_zero,List.append_nil];exact hp0⟩ ?_
 case refine_2=>
  have e0:p0++(itG n.gens g).take 0=p0:=by rw[List.take_zero,List.append_nil]
  rw[e0];exact ZaW
 rintro i ⟨hi,he,hBi⟩
 have hz:(List.zipWith okG n.gens g).length=n.gens.length:=by rw[List.length_zipWith];omega
 have hz2:(itG n.gens g).length=n.gens.length:=by rw[itG,List.length_zipWith];omega
 cases h1:decide ((i:Int)<(n.gens.length:Int))with
 |false=>
  have e:i=n.gens.length:=by have:=of_decide_eq_false h1;omega
  have et:(itG n.gens g).take i=itG n.gens g:=List.take_of_length_le (by omega)
  rw[et]at hBi
  refine Zae ?_
  refine Zab ?_
  refine Zad ?_
  refine brF h1 ?_
  refine .inl ⟨rfl,by rw[he,List.drop_eq_nil_of_le (by omega)];rfl,hBi, ?_⟩
  rw[et]
  exact Zah ⟨rfl,rfl,rfl,rfl,trivial⟩
 |true=>
  have hlt:i<n.gens.length:=by have:=of_decide_eq_true h1;omega
  obtain⟨x,gx0,gx⟩:=ZbU hlt
  obtain⟨p,gp0,gp⟩:=ZbU (l:=g) (i:=i) (by omega)
  obtain⟨_,hnode,hbad⟩:=ZpY hf (List.mem_of_getElem? gx0)
  have hfit:=Zpp hbad
  have ha:=ZmL (Ze4 (f:=okG) gx0 gp0)
  have ht:p0++(itG n.gens g).take (i+1)=p0++(itG n.gens g).take i++ [(x.2.1,p)]:=by
   rw[List.append_assoc]
   exact congrArg (p0++ ·) (ZbR (Ze4 (f:=fun(g:Ge) (x:Int)=>(g.2.1,x)) gx0 gp0))
  have hLen:(p0++(itG n.gens g).take i).length=p0.length+i:=by rw[List.length_append,List.length_take];omega
  have hc:=Zjq n.nodes x.2.1 (by omega)
  refine Zae ?_
  refine Zab ?_
  refine Zad ?_
  refine brT h1 ?_
  refine Zae ?_
  refine Zab ?_
  refine ZaY rfl (fun _=>rfl) (Int.natCast_nonneg i) gx rfl rfl ?_
  refine Zab ?_
  refine Zbs ?_
  refine Zab ?_
  refine Zaf rfl (ZaM rfl rfl rfl rfl rfl rfl rfl rfl ?_)
  refine ZaI rfl ?_
  refine Zad ?_
  cases h2:decide (p=0)with
  |true=>
   have hp:=of_decide_eq_true h2
   have hpv: -1000000≤p∧p≤1000000:=by omega
   have ok:okG x p=true:=by rw[okG,h2];rfl
   have hb:(!decide (p=0))=false:=by rw[h2];rfl
   refine Zae ?_
   iterate 2 refine Zab ?_
   refine ZaY rfl (fun _=>rfl) (Int.natCast_nonneg i) gp rfl rfl ?_
   iterate 3 refine Zab ?_
   refine Zag hb ?_
   refine Zag hb ?_
   refine Zag hb ?_
   refine Zag hb ?_
   refine Zag hb ?_
   refine Zag hb ?_
   refine Zag hb ?_
   refine Zag hb ?_
   refine Zgh ?_
   refine Zgh ?_
   refine Zgh ?_
   refine Zgh ?_
   refine Zgh ?_
   refine Zgh ?_
   refine Zgh ?_
   refine Zag hb ?_
   refine Zap hb ?_
   refine Zad ?_
   refine brF rfl ?_
   obtain⟨j,j1,jc,j3,j4⟩:=Zmp hf hnode hBi (by rw[hLen];omega) hpv
   rw[j1]at hc
   rw[←ht]at j4
   refine Zae ?_
   iterate 2 refine Zab ?_
   refine Zal rfl (fun _=>rfl) rfl rfl rfl ?_
   refine Zab ?_
   refine Zal rfl (fun _=>rfl) rfl rfl rfl ?_
   refine Zaf rfl ((hc).mono ?_)
   rintro _ rfl
   refine Zac rfl rfl ?_
   refine Zaf rfl (Zbi rfl rfl rfl rfl rfl rfl rfl jc ?_)
   refine Zac rfl rfl ?_
   refine Zaf rfl (Zb7 rfl rfl rfl j3 rfl ?_)
   refine Zac rfl rfl ?_
   iterate 2 refine Zab ?_
   refine ZaY rfl (fun _=>rfl) (Int.natCast_nonneg i) gp rfl rfl ?_
   iterate 2 refine Zab ?_
   refine Zaf rfl (Zbi rfl rfl rfl rfl rfl rfl rfl jc ?_)
   refine Zac rfl rfl ?_
   refine Zaf rfl (ZgD rfl rfl rfl rfl rfl j3 rfl rfl rfl ?_)
   refine ZaI rfl ?_
   refine Zad ?_
   refine Zae ?_
   iterate 2 refine Zab ?_
   refine Zad ?_
   refine⟨i+1,⟨hlt,by rw[he,ha,ok];rfl,by rw[ht];exact Zi4 hBi hpv⟩,by show n.gens.length-(i+1)<n.gens.length-i;omega, ?_⟩
   exact ZaV [0,1] ⟨rfl,rfl,congrArg (fun z=>some (SM.row I64 z true)) j4,rfl,trivial⟩ (by decide) ⟨rfl,Zas,rfl,Zas,rfl,ZaL (by show 0<2;omega),rfl,Zbm (by show 1<2;omega),rfl,Zas,rfl,Zas,congrArg (fun x=>some (SV.v (.i .i64) x)) (Za5 (by omega)),Zas,trivial⟩
  |false=>
   have hb:(!decide (p=0))=true:=by rw[h2];rfl
   cases h3:decide (p<x.2.2.1)with
   |true=>
    have ok:okG x p=false:=by rw[okG,h2,h3];rfl
    refine Zae ?_
    iterate 2 refine Zab ?_
    refine ZaY rfl (fun _=>rfl) (Int.natCast_nonneg i) gp rfl rfl ?_
    iterate 3 refine Zab ?_
    refine Zaa hb ?_
    refine Zaa hb ?_
    refine Zbn rfl rfl rfl hb (fun _=>rfl) (Int.natCast_nonneg i) gp rfl rfl ?_
    refine Zaa hb ?_
    refine Zaa hb ?_
    refine Zai rfl rfl rfl hb (fun _=>rfl) rfl rfl rfl ?_
    refine Zaa hb ?_
    refine Zaa hb ?_
    refine Zag h3 ?_
    refine Zag h3 ?_
    refine Zag h3 ?_
    refine Zag h3 ?_
    refine Zag h3 ?_
    refine Zag h3 ?_
    refine Zag h3 ?_
    refine Zbw rfl rfl rfl hb rfl rfl h3 rfl rfl rfl ?_
    refine Zaq hb ?_
    refine Zad ?_
    refine brT rfl ?_
    refine Zae ?_
    iterate 2 refine Zab ?_
    refine Zad ?_
    refine ZaA ?_
    repeat (first|refine Zau ?_|refine Zav ?_|refine Zar ?_)
    exact .inr ⟨rfl,by rw[he,ha,ok];rfl,ZaU ⟨rfl,rfl,rfl,rfl,trivial⟩⟩
   |false=>
    cases h4:decide (p>x.2.2.2.1)with
    |true=>
     have ok:okG x p=false:=by rw[okG,h2,h3,h4];rfl
     refine Zae ?_
     iterate 2 refine Zab ?_
     refine ZaY rfl (fun _=>rfl) (Int.natCast_nonneg i) gp rfl rfl ?_
     iterate 3 refine Zab ?_
     refine Zaa hb ?_
     refine Zaa hb ?_
     refine Zbn rfl rfl rfl hb (fun _=>rfl) (Int.natCast_nonneg i) gp rfl rfl ?_
     refine Zaa hb ?_
     refine Zaa hb ?_
     refine Zai rfl rfl rfl hb (fun _=>rfl) rfl rfl rfl ?_
     refine Zaa hb ?_
     refine Zaa hb ?_
     refine Zaa h3 ?_
     refine Zaa h3 ?_
     refine Zbn rfl rfl rfl h3 (fun _=>rfl) (Int.natCast_nonneg i) gp rfl rfl ?_
     refine Zaa h3 ?_
     refine Zaa h3 ?_
     refine Zai rfl rfl rfl h3 (fun _=>rfl) rfl rfl rfl ?_
     refine Zaa h3 ?_
     refine Zbq rfl rfl rfl hb rfl rfl h3 rfl rfl rfl ?_
     refine Zaq hb ?_
     refine Zad ?_
     refine brT h4 ?_
     refine Zae ?_
     iterate 2 refine Zab ?_
     refine Zad ?_
     refine ZaA ?_
     repeat (first|refine Zau ?_|refine Zav ?_|refine Zar ?_)
     exact .inr ⟨rfl,by rw[he,ha,ok];rfl,ZaU ⟨rfl,rfl,rfl,rfl,trivial⟩⟩
    |false=>
     have g3:=of_decide_eq_false h3
     have g4:=of_decide_eq_false h4
     have hpv: -1000000≤p∧p≤1000000:=by omega
     have ok:okG x p=true:=by rw[okG,h2,h3,h4];rfl
     refine Zae ?_
     iterate 2 refine Zab ?_
     refine ZaY rfl (fun _=>rfl) (Int.natCast_nonneg i) gp rfl rfl ?_
     iterate 3 refine Zab ?_
     refine Zaa hb ?_
     refine Zaa hb ?_
     refine Zbn rfl rfl rfl hb (fun _=>rfl) (Int.natCast_nonneg i) gp rfl rfl ?_
     refine Zaa hb ?_
     refine Zaa hb ?_
     refine Zai rfl rfl rfl hb (fun _=>rfl) rfl rfl rfl ?_
     refine Zaa hb ?_
     refine Zaa hb ?_
     refine Zaa h3 ?_
     refine Zaa h3 ?_
     refine Zbn rfl rfl rfl h3 (fun _=>rfl) (Int.natCast_nonneg i) gp rfl rfl ?_
     refine Zaa h3 ?_
     refine Zaa h3 ?_
     refine Zai rfl rfl rfl h3 (fun _=>rfl) rfl rfl rfl ?_
     refine Zaa h3 ?_
     refine Zbq rfl rfl rfl hb rfl rfl h3 rfl rfl rfl ?_
     refine Zaq hb ?_
     refine Zad ?_
     refine brF h4 ?_
     obtain⟨j,j1,jc,j3,j4⟩:=Zmp hf hnode hBi (by rw[hLen];omega) hpv
     rw[j1]at hc
     rw[←ht]at j4
     refine Zae ?_
     iterate 2 refine Zab ?_
     refine Zal rfl (fun _=>rfl) rfl rfl rfl ?_
     refine Zab ?_
     refine Zal rfl (fun _=>rfl) rfl rfl rfl ?_
     refine Zaf rfl ((hc).mono ?_)
     rintro _ rfl
     refine Zac rfl rfl ?_
     refine Zaf rfl (Zbi rfl rfl rfl rfl rfl rfl rfl jc ?_)
     refine Zac rfl rfl ?_
     refine Zaf rfl (Zb7 rfl rfl rfl j3 rfl ?_)
     refine Zac rfl rfl ?_
     iterate 2 refine Zab ?_
     refine ZaY rfl (fun _=>rfl) (Int.natCast_nonneg i) gp rfl rfl ?_
     iterate 2 refine Zab ?_
     refine Zaf rfl (Zbi rfl rfl rfl rfl rfl rfl rfl jc ?_)
     refine Zac rfl rfl ?_
     refine Zaf rfl (ZgD rfl rfl rfl rfl rfl j3 rfl rfl rfl ?_)
     refine ZaI rfl ?_
     refine Zad ?_
     refine Zae ?_
     iterate 2 refine Zab ?_
     refine Zad ?_
     refine⟨i+1,⟨hlt,by rw[he,ha,ok];rfl,by rw[ht];exact Zi4 hBi hpv⟩,by show n.gens.length-(i+1)<n.gens.length-i;omega, ?_⟩
     exact ZaV [0,1] ⟨rfl,rfl,congrArg (fun z=>some (SM.row I64 z true)) j4,rfl,trivial⟩ (by decide) ⟨rfl,Zas,rfl,Zas,rfl,ZaL (by show 0<2;omega),rfl,Zbm (by show 1<2;omega),rfl,Zas,rfl,Zas,congrArg (fun x=>some (SV.v (.i .i64) x)) (Za5 (by omega)),Zas,trivial⟩
def ziS (n:Ne.Net) (g s:List Int) (i:Nat):TM:=[(1, .v (.l I64) g),(2, .v (.l I64) s),(3, .ptr 0 0 0),(9, .ref 1 0 n.nodes.length none),(88, .v (.l gCT) n.stores),(89,nt n.stores.length),(90,nt i)]
set_option maxHeartbeats 16000000 in
theorem Zr1 (n:Ne.Net) (g s:List Int) (p0:List (Txt×Int)) (hp0:Bd p0) (hl0:p0.length≤100) (hf:Fine n) (hg:s.length=n.stores.length):
 LoopOK Tryz.prog ZaO 0 ⟨16,0,161⟩ (Zbd Tryz.f16 15) (ziS n g s 0) (hJ n p0)
 (fun e tm hp'=>(e= .exit 2∧Zo5 n.stores s=true∧Bd (p0++itS n.stores s)∧Ent 0 tm hp' (zJ n g s) (hJ n (p0++itS n.stores s)))∨(e= .ret∧Zo5 n.stores s=false∧Ent 0 tm hp' [(6, .nils),(7, .v (.i .i64) (17:Int))] [])):=by
 obtain⟨b1,b2,b3,b4⟩:=ZbP hf.big
 refine ZaH Zaw rfl (ziS n g s) (fun i=>hJ n (p0++(itS n.stores s).take i)) (fun i=>i≤n.stores.length∧Zo5 n.stores s=((List.zipWith okS n.stores s).drop i).all id∧Bd (p0++(itS n.stores s).take i)) (fun i=>n.stores.length-i) ?_ 0 ⟨Nat.zero_le _,rfl,by rw[List.take_zero,List.append_nil];exact hp0⟩ ?_
 case refine_2=>
  have e0:p0++(itS n.stores s).take 0=p0:=by rw[List.take_zero,List.append_nil]
  rw[e0];exact ZaW
 rintro i ⟨hi,he,hBi⟩
 have hz:(List.zipWith okS n.stores s).length=n.stores.length:=by rw[List.length_zipWith];omega
 have hz2:(itS n.stores s).length=n.stores.length:=by rw[itS,List.length_zipWith];omega
 cases h1:decide ((i:Int)<(n.stores.length:Int))with
 |false=>
  have e:i=n.stores.length:=by have:=of_decide_eq_false h1;omega
  have et:(itS n.stores s).take i=itS n.stores s:=List.take_of_length_le (by omega)
  rw[et]at hBi
  refine Zae ?_
  refine Zab ?_
  refine Zad ?_
  refine brF h1 ?_
  refine .inl ⟨rfl,by rw[he,List.drop_eq_nil_of_le (by omega)];rfl,hBi, ?_⟩
  rw[et]
  exact Zah ⟨rfl,rfl,rfl,rfl,trivial⟩
 |true=>
  have hlt:i<n.stores.length:=by have:=of_decide_eq_true h1;omega
  obtain⟨x,gx0,gx⟩:=ZbU hlt
  obtain⟨p,gp0,gp⟩:=ZbU (l:=s) (i:=i) (by omega)
  obtain⟨_,hnode,hbad⟩:=Zo1 hf (List.mem_of_getElem? gx0)
  have hfit:=Zou hbad
  have ha:=ZmL (Ze4 (f:=okS) gx0 gp0)
  have ht:p0++(itS n.stores s).take (i+1)=p0++(itS n.stores s).take i++ [(x.2.1,p)]:=by
   rw[List.append_assoc]
   exact congrArg (p0++ ·) (ZbR (Ze4 (f:=fun(g:Ge) (x:Int)=>(g.2.1,x)) gx0 gp0))
  have hLen:(p0++(itS n.stores s).take i).length=p0.length+i:=by rw[List.length_append,List.length_take];omega
  have hc:=Zjq n.nodes x.2.1 (by omega)
  refine Zae ?_
  refine Zab ?_
  refine Zad ?_
  refine brT h1 ?_
  refine Zae ?_
  refine Zab ?_
  refine ZaY rfl (fun _=>rfl) (Int.natCast_nonneg i) gx rfl rfl ?_
  refine Zab ?_
  refine Zbs ?_
  refine Zab ?_
  refine Zaf rfl (ZaM rfl rfl rfl rfl rfl rfl rfl rfl ?_)
  refine ZaI rfl ?_
  refine Zad ?_
  have hng:IntKind.i64.wrap (0-x.2.2.1)= -x.2.2.1:=by rw[Zdf (by omega) (by omega)];omega
  cases h3:decide (p< -x.2.2.1)with
  |true=>
   have ok:okS x p=false:=by rw[okS,h3];rfl
   have h5:decide (p<IntKind.i64.wrap (0-x.2.2.1))=true:=by rw[hng];exact h3
   refine Zae ?_
   iterate 2 refine Zab ?_
   refine ZaY rfl (fun _=>rfl) (Int.natCast_nonneg i) gp rfl rfl ?_
   iterate 2 refine Zab ?_
   refine Zal rfl (fun _=>rfl) rfl rfl rfl ?_
   iterate 3 refine Zab ?_
   refine Zag h5 ?_
   refine Zag h5 ?_
   refine Zag h5 ?_
   refine Zag h5 ?_
   refine Zag h5 ?_
   refine Zag h5 ?_
   refine Zag h5 ?_
   refine Zaq h5 ?_
   refine Zad ?_
   refine brT rfl ?_
   refine Zae ?_
   iterate 2 refine Zab ?_
   refine Zad ?_
   refine ZaA ?_
   repeat (first|refine Zau ?_|refine Zav ?_|refine Zar ?_)
   exact .inr ⟨rfl,by rw[he,ha,ok];rfl,ZaU ⟨rfl,rfl,rfl,rfl,trivial⟩⟩
  |false=>
   have h5:decide (p<IntKind.i64.wrap (0-x.2.2.1))=false:=by rw[hng];exact h3
   cases h4:decide (p>x.2.2.2.1)with
   |true=>
    have ok:okS x p=false:=by rw[okS,h3,h4];rfl
    refine Zae ?_
    iterate 2 refine Zab ?_
    refine ZaY rfl (fun _=>rfl) (Int.natCast_nonneg i) gp rfl rfl ?_
    iterate 2 refine Zab ?_
    refine Zal rfl (fun _=>rfl) rfl rfl rfl ?_
    iterate 3 refine Zab ?_
    refine Zaa h5 ?_
    refine Zaa h5 ?_
    refine Zbn rfl rfl rfl h5 (fun _=>rfl) (Int.natCast_nonneg i) gp rfl rfl ?_
    refine Zaa h5 ?_
    refine Zaa h5 ?_
    refine Zai rfl rfl rfl h5 (fun _=>rfl) rfl rfl rfl ?_
    refine Zaa h5 ?_
    refine Zap h5 ?_
    refine Zad ?_
    refine brT h4 ?_
    refine Zae ?_
    iterate 2 refine Zab ?_
    refine Zad ?_
    refine ZaA ?_
    repeat (first|refine Zau ?_|refine Zav ?_|refine Zar ?_)
    exact .inr ⟨rfl,by rw[he,ha,ok];rfl,ZaU ⟨rfl,rfl,rfl,rfl,trivial⟩⟩
   |false=>
    have g3:=of_decide_eq_false h3
    have g4:=of_decide_eq_false h4
    have hpv: -1000000≤p∧p≤1000000:=by omega
    have ok:okS x p=true:=by rw[okS,h3,h4];rfl
    refine Zae ?_
    iterate 2 refine Zab ?_
    refine ZaY rfl (fun _=>rfl) (Int.natCast_nonneg i) gp rfl rfl ?_
    iterate 2 refine Zab ?_
    refine Zal rfl (fun _=>rfl) rfl rfl rfl ?_
    iterate 3 refine Zab ?_
    refine Zaa h5 ?_
    refine Zaa h5 ?_
    refine Zbn rfl rfl rfl h5 (fun _=>rfl) (Int.natCast_nonneg i) gp rfl rfl ?_
    refine Zaa h5 ?_
    refine Zaa h5 ?_
    refine Zai rfl rfl rfl h5 (fun _=>rfl) rfl rfl rfl ?_
    refine Zaa h5 ?_
    refine Zap h5 ?_
    refine Zad ?_
    refine brF h4 ?_
    obtain⟨j,j1,jc,j3,j4⟩:=Zmp hf hnode hBi (by rw[hLen];omega) hpv
    rw[j1]at hc
    rw[←ht]at j4
    refine Zae ?_
    iterate 2 refine Zab ?_
    refine Zal rfl (fun _=>rfl) rfl rfl rfl ?_
    refine Zab ?_
    refine Zal rfl (fun _=>rfl) rfl rfl rfl ?_
    refine Zaf rfl ((hc).mono ?_)
    rintro _ rfl
    refine Zac rfl rfl ?_
    refine Zaf rfl (Zbi rfl rfl rfl rfl rfl rfl rfl jc ?_)
    refine Zac rfl rfl ?_
    refine Zaf rfl (Zb7 rfl rfl rfl j3 rfl ?_)
    refine Zac rfl rfl ?_
    iterate 2 refine Zab ?_
    refine ZaY rfl (fun _=>rfl) (Int.natCast_nonneg i) gp rfl rfl ?_
    iterate 2 refine Zab ?_
    refine Zaf rfl (Zbi rfl rfl rfl rfl rfl rfl rfl jc ?_)
    refine Zac rfl rfl ?_
    refine Zaf rfl (ZgD rfl rfl rfl rfl rfl j3 rfl rfl rfl ?_)
    refine ZaI rfl ?_
    refine Zad ?_
    refine Zae ?_
    iterate 2 refine Zab ?_
    refine Zad ?_
    refine⟨i+1,⟨hlt,by rw[he,ha,ok];rfl,by rw[ht];exact Zi4 hBi hpv⟩,by show n.stores.length-(i+1)<n.stores.length-i;omega, ?_⟩
    exact ZaV [0,1] ⟨rfl,rfl,congrArg (fun z=>some (SM.row I64 z true)) j4,rfl,trivial⟩ (by decide) ⟨rfl,Zas,rfl,Zas,rfl,ZaL (by show 0<2;omega),rfl,Zbm (by show 1<2;omega),rfl,Zas,rfl,Zas,congrArg (fun x=>some (SV.v (.i .i64) x)) (Za5 (by omega)),Zas,trivial⟩
def ziL (n:Ne.Net) (g s:List Int) (i:Nat):TM:=[(1, .v (.l I64) g),(2, .v (.l I64) s),(3, .ptr 0 0 0),(9, .ref 1 0 n.nodes.length none),(128, .v (.l dCT) n.loads),(129,nt n.loads.length),(130,nt i)]
set_option maxHeartbeats 16000000 in
theorem Ztg (n:Ne.Net) (g s:List Int) (p0:List (Txt×Int)) (hp0:Bd p0) (hl0:p0.length≤100) (hf:Fine n):
 LoopOK Tryz.prog ZaO 0 ⟨16,0,161⟩ (Zbd Tryz.f16 22) (ziL n g s 0) (hJ n p0)
 (fun e tm hp'=>e= .exit 4∧Bd (p0++itL n.loads)∧Ent 0 tm hp' (zJ n g s) (hJ n (p0++itL n.loads))):=by
 obtain⟨b1,b2,b3,b4⟩:=ZbP hf.big
 refine ZaH Zaw rfl (ziL n g s) (fun i=>hJ n (p0++(itL n.loads).take i)) (fun i=>i≤n.loads.length∧Bd (p0++(itL n.loads).take i)) (fun i=>n.loads.length-i) ?_ 0 ⟨Nat.zero_le _,by rw[List.take_zero,List.append_nil];exact hp0⟩ ?_
 case refine_2=>
  have e0:p0++(itL n.loads).take 0=p0:=by rw[List.take_zero,List.append_nil]
  rw[e0];exact ZaW
 rintro i ⟨hi,hBi⟩
 have hz2:(itL n.loads).length=n.loads.length:=by rw[itL,List.length_map]
 cases h1:decide ((i:Int)<(n.loads.length:Int))with
 |false=>
  have e:i=n.loads.length:=by have:=of_decide_eq_false h1;omega
  have et:(itL n.loads).take i=itL n.loads:=List.take_of_length_le (by omega)
  rw[et]at hBi
  refine Zae ?_
  refine Zab ?_
  refine Zad ?_
  refine brF h1 ?_
  refine⟨rfl,hBi, ?_⟩
  rw[et]
  exact Zah ⟨rfl,rfl,rfl,rfl,trivial⟩
 |true=>
  have hlt:i<n.loads.length:=by have:=of_decide_eq_true h1;omega
  obtain⟨x,gx0,gx⟩:=ZbU hlt
  obtain⟨_,hnode,hbad⟩:=Zqc hf (List.mem_of_getElem? gx0)
  have hfit:=ZoA hbad
  have hpv: -1000000≤ -x.2.2∧ -x.2.2≤1000000:=by omega
  have ht:p0++(itL n.loads).take (i+1)=p0++(itL n.loads).take i++ [(x.2.1,-x.2.2)]:=by
   rw[List.append_assoc]
   exact congrArg (p0++ ·) (ZbR (by rw[itL,List.getElem?_map,gx0];rfl))
  have hLen:(p0++(itL n.loads).take i).length=p0.length+i:=by rw[List.length_append,List.length_take];omega
  have hc:=Zjq n.nodes x.2.1 (by omega)
  refine Zae ?_
  refine Zab ?_
  refine Zad ?_
  refine brT h1 ?_
  refine Zae ?_
  refine ZaY rfl (fun _=>rfl) (Int.natCast_nonneg i) gx rfl rfl ?_
  refine Zab ?_
  refine Zbs ?_
  refine Zaf rfl (ZaM rfl rfl rfl rfl rfl rfl rfl rfl ?_)
  refine ZaI rfl ?_
  refine Zad ?_
  obtain⟨j,j1,jc,j3,j4⟩:=Zmp hf hnode hBi (by rw[hLen];omega) hpv
  rw[j1]at hc
  rw[←ht]at j4
  refine Zae ?_
  iterate 2 refine Zab ?_
  refine Zal rfl (fun _=>rfl) rfl rfl rfl ?_
  refine Zab ?_
  refine Zal rfl (fun _=>rfl) rfl rfl rfl ?_
  refine Zaf rfl ((hc).mono ?_)
  rintro _ rfl
  refine Zac rfl rfl ?_
  refine Zaf rfl (Zbi rfl rfl rfl rfl rfl rfl rfl jc ?_)
  refine Zac rfl rfl ?_
  refine Zaf rfl (Zb7 rfl rfl rfl j3 rfl ?_)
  refine Zac rfl rfl ?_
  refine Zab ?_
  refine Zal rfl (fun _=>rfl) rfl rfl rfl ?_
  refine Zab ?_
  refine Zaf rfl (Zbi rfl rfl rfl rfl rfl rfl rfl jc ?_)
  refine Zac rfl rfl ?_
  refine Zaf rfl (ZgD rfl rfl rfl rfl rfl j3 rfl rfl rfl ?_)
  refine ZaI rfl ?_
  refine Zad ?_
  refine Zae ?_
  iterate 2 refine Zab ?_
  refine Zad ?_
  refine⟨i+1,⟨hlt,by rw[ht];exact Zi4 hBi hpv⟩,by show n.loads.length-(i+1)<n.loads.length-i;omega, ?_⟩
  exact ZaV [0,1] ⟨rfl,rfl,congrArg (fun z=>some (SM.row I64 z true)) j4,rfl,trivial⟩ (by decide) ⟨rfl,Zas,rfl,Zas,rfl,ZaL (by show 0<2;omega),rfl,Zbm (by show 1<2;omega),rfl,Zas,rfl,Zas,congrArg (fun x=>some (SV.v (.i .i64) x)) (Za5 (by omega)),Zas,trivial⟩
def ziR (k i:Nat):TM:=[(9, .ref 1 0 k none),(147, .ref 1 0 k none),(148,nt k),(149,nt i)]
set_option maxHeartbeats 16000000 in
theorem ZsA (R:List Int) (H:List SM) (hH:nth H 1=some (.row I64 R true)) (hl:R.length≤100):
 LoopOK Tryz.prog ZaO 0 ⟨16,0,161⟩ (Zbd Tryz.f16 27) (ziR R.length 0) H
 (fun e tm hp'=>(e= .exit 6∧R.any ZbE=false∧Ent 0 tm hp' [(9, .ref 1 0 R.length none)] H)∨(e= .ret∧R.any ZbE=true∧Ent 0 tm hp' [(6, .nils),(7, .v (.i .i64) (4:Int))] [])):=by
 refine ZaH Zaw rfl (ziR R.length) (fun _=>H) (fun i=>i≤R.length∧R.any ZbE=(R.drop i).any ZbE) (fun i=>R.length-i) ?_ 0 ⟨Nat.zero_le _,rfl⟩ ZaW
 rintro i ⟨hi,he⟩
 cases h1:decide ((i:Int)<(R.length:Int))with
 |false=>
  have e:i=R.length:=by have:=of_decide_eq_false h1;omega
  refine Zae ?_
  refine Zab ?_
  refine Zad ?_
  refine brF h1 ?_
  exact .inl ⟨rfl,by rw[he,e,List.drop_length];rfl,Zah ⟨rfl,trivial⟩⟩
 |true=>
  have hlt:i<R.length:=by have:=of_decide_eq_true h1;omega
  have ci:=cin hlt
  have gx:R[0+(i:Int).toNat]? =some R[i]:=by rw[Int.toNat_natCast,Nat.zero_add];exact List.getElem?_eq_getElem hlt
  have ed:(R.drop i).any ZbE=(ZbE R[i]||(R.drop (i+1)).any ZbE):=by rw[List.drop_eq_getElem_cons hlt,List.any_cons]
  obtain⟨x,ex⟩: ∃x,R[i]=x:=⟨_,rfl⟩
  rw[ex]at gx ed
  refine Zae ?_
  refine Zab ?_
  refine Zad ?_
  refine brT h1 ?_
  refine Zae ?_
  refine Zaf rfl (Zbi rfl rfl rfl rfl rfl hH rfl ci ?_)
  refine Zac rfl rfl ?_
  refine Zaf rfl (Zb7 rfl rfl hH gx rfl ?_)
  refine Zac rfl rfl ?_
  refine Zab ?_
  refine Zad ?_
  cases h3:decide (x< -100000)with
  |true=>
   have ok:ZbE x=true:=by rw[ZbE,h3];rfl
   refine Zae ?_
   iterate 3 refine Zab ?_
   refine Zag h3 ?_
   refine Zag h3 ?_
   refine Zaq h3 ?_
   refine Zad ?_
   refine brT rfl ?_
   refine Zae ?_
   iterate 2 refine Zab ?_
   refine Zad ?_
   refine ZaA ?_
   repeat (first|refine Zau ?_|refine Zav ?_|refine Zar ?_)
   exact .inr ⟨rfl,by rw[he,ed,ok];rfl,ZaU ⟨rfl,rfl,rfl,rfl,trivial⟩⟩
  |false=>
   cases h4:decide (x>100000)with
   |true=>
    have ok:ZbE x=true:=by rw[ZbE,h3,h4];rfl
    refine Zae ?_
    iterate 3 refine Zab ?_
    refine Zaa h3 ?_
    refine Zaa h3 ?_
    refine Zap h3 ?_
    refine Zad ?_
    refine brT h4 ?_
    refine Zae ?_
    iterate 2 refine Zab ?_
    refine Zad ?_
    refine ZaA ?_
    repeat (first|refine Zau ?_|refine Zav ?_|refine Zar ?_)
    exact .inr ⟨rfl,by rw[he,ed,ok];rfl,ZaU ⟨rfl,rfl,rfl,rfl,trivial⟩⟩
   |false=>
    have ok:ZbE x=false:=by rw[ZbE,h3,h4];rfl
    refine Zae ?_
    iterate 3 refine Zab ?_
    refine Zaa h3 ?_
    refine Zaa h3 ?_
    refine Zap h3 ?_
    refine Zad ?_
    refine brF h4 ?_
    refine Zae ?_
    iterate 2 refine Zab ?_
    refine Zad ?_
    refine⟨i+1,⟨hlt,by rw[he,ed,ok];rfl⟩,by show R.length-(i+1)<R.length-i;omega, ?_⟩
    exact Zah ⟨rfl,rfl,rfl,congrArg (fun x=>some (SV.v (.i .i64) x)) (Za5 (by omega)),trivial⟩
end Go.Proofs.YtgmjnhiakpcpbaaGreatDoor
