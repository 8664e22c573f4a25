/-
 The reference's Found: what a name denotes.
-/
import Derived.Test.YtgngdcpglnfkeaaDoorU7
set_option linter.constructorNameAsVariable false
set_option linter.unusedSimpArgs false
set_option linter.unusedVariables false
namespace Go.Proofs.YtgngdcpglnfkeaaDoor
open Go.Am Go.Tx Ne
set_option maxRecDepth 100000
def goF (s:Txt):List Txt→Nat→List (List Txt)→Nat→Option (Nat×Nat)
 | [],_,[],_=>none
 | [],_,l::r,k=>goF s l 0 r (k+1)
 |c::t,j,r,k=>bif c==s then some (k,j)else goF s t (j+1) r k
termination_by cur _ rest _=>(rest.length,cur.length)
theorem ZeI (s:Txt) (j:Nat) (l:List Txt) (r:List (List Txt)) (k:Nat):goF s [] j (l::r) k=goF s l 0 r (k+1):=by rw[goF]
theorem Zkf (s c:Txt) (t:List Txt) (j:Nat) (r:List (List Txt)) (k:Nat):goF s (c::t) j r k=bif c==s then some (k,j)else goF s t (j+1) r k:=by rw[goF]
theorem Zj2 (s:Txt) (k:Nat): ∀ (r:List (List Txt)) (j k:Nat),r.flatten=[]→goF s [] j r k=none
 | [],j,k,_=>by rw[goF]
 |l::r,j,k,h=>by
  rw[List.flatten_cons,List.append_eq_nil_iff]at h
  rw[ZeI,h.1]
  exact Zj2 s k r 0 (k+1) h.2
structure FSt where
 cur:List Txt
 left:Nat
 rest:List (List Txt)
 kind:Nat
structure FI (sizes:List Int) (N:List Txt) (s:Txt) (R:Option (Nat×Nat)) (z:FSt):Prop where
 k:z.kind+z.rest.length=4
 c:sizes[z.kind]? =some ((z.left+z.cur.length:Nat):Int)
 r: ∀j l,z.rest[j]? =some l→sizes[z.kind+1+j]? =some ((l.length:Nat):Int)
 n:z.cur++z.rest.flatten=N
 g:goF s z.cur z.left z.rest z.kind=R
 b:z.left+z.cur.length≤1000∧ ∀l∈z.rest,l.length≤1000
def vF (s:Txt) (its:List Ne.Item) (i:Nat) (z:FSt):TM:=[(1, .v .s s),(7, .ref 1 0 5 none),(8,nt z.kind),(9,nt z.left),(11, .ptr 2 0 0),(36, .v (.l Zfm) its),(37,nt its.length),(38,nt i)]
set_option maxHeartbeats 16000000 in
theorem ZrS (s:Txt) (its:List Ne.Item) (i:Nat) (H:List SM) (sizes:List Int) (N:List Txt) (R:Option (Nat×Nat)) (hN:N≠ []) (hs:sizes.length=5) (hr:nth H 1=some (.row (.i .i64) sizes true)) (z:FSt) (hz:FI sizes N s R z):
 LoopOK Tryd.prog Zaw 0 ⟨12,0,62⟩ (Zbt Tryd.f12 9) (vF s its i z) H
 (fun e tm hp'=>e= .exit 2∧ ∃c t left rest kind,FI sizes N s R ⟨c::t,left,rest,kind⟩∧Ent 0 tm hp' (vF s its i ⟨c::t,left,rest,kind⟩) H):=by
 refine ZaH Zao rfl (vF s its i) (fun _=>H) (FI sizes N s R) (fun z=>z.rest.length) ?_ z hz ZaW
 rintro⟨cur,left,rest,kind⟩ hz
 have hk:=hz.k
 have hc:=hz.c
 have hb:=hz.b.1
 have hk:kind+rest.length=4:=hk
 have hc:sizes[(0:Nat)+(kind:Int).toNat]? =some ((left+cur.length:Nat):Int):=by rw[Int.toNat_natCast,Nat.zero_add];exact hc
 have ci:(0:Int)≤(kind:Int)∧(kind:Int)<((5:Nat):Int):=by omega
 cases cur with
 |nil=>
  have h1:decide ((left:Int)=((left+([]:List Txt).length:Nat):Int))=true:=by rw[List.length_nil,Nat.add_zero];exact decide_eq_true rfl
  refine Zae ?_
  iterate 3 refine Zab ?_
  refine Zac rfl (Zck rfl rfl rfl rfl rfl hr rfl ci ?_)
  refine Zaa rfl rfl ?_
  refine Zac rfl (Zcm rfl rfl hr hc rfl ?_)
  refine Zaa rfl rfl ?_
  refine Zab ?_
  refine Zaf ?_
  refine brT h1 ?_
  refine Zae ?_
  iterate 4 refine Zab ?_
  refine Zaf ?_
  cases rest with
  |nil=>exact absurd hz.n.symm hN
  |cons l r=>
   have hk:kind+(r.length+1)=4:=hk
   refine⟨⟨l,0,r,kind+1⟩,⟨by show kind+1+r.length=4;omega, ?_,fun j m hj=> ?_, ?_,(ZeI s left l r kind).symm.trans hz.g, ?_,fun m hm=>hz.b.2 m (List.mem_cons_of_mem _ hm)⟩,by show r.length<r.length+1;omega, ?_⟩
   ·have:=hz.r 0 l rfl
    show sizes[kind+1]? =some ((0+l.length:Nat):Int)
    rw[Nat.zero_add];exact this
   ·have:=hz.r (j+1) m hj
    show sizes[kind+1+1+j]? =_
    rw[show kind+1+1+j=kind+1+(j+1)by omega];exact this
   ·have:=hz.n
    show l++r.flatten=N
    rw[←this,List.nil_append,List.flatten_cons]
   ·have:=hz.b.2 l (List.mem_cons_self ..)
    show 0+l.length≤1000
    omega
   ·exact Zai ⟨rfl,rfl,congrArg (fun x=>some (SV.v (.i .i64) x)) (Za7 (by omega)),rfl,rfl,rfl,rfl,rfl,trivial⟩
 |cons c t=>
  have h1:decide ((left:Int)=((left+(c::t).length:Nat):Int))=false:=by rw[decide_eq_false_iff_not,List.length_cons];omega
  refine Zae ?_
  iterate 3 refine Zab ?_
  refine Zac rfl (Zck rfl rfl rfl rfl rfl hr rfl ci ?_)
  refine Zaa rfl rfl ?_
  refine Zac rfl (Zcm rfl rfl hr hc rfl ?_)
  refine Zaa rfl rfl ?_
  refine Zab ?_
  refine Zaf ?_
  refine brF h1 ?_
  exact⟨rfl,c,t,left,rest,kind,hz,Zai ⟨rfl,rfl,rfl,rfl,rfl,rfl,rfl,rfl,trivial⟩⟩
def W5:List Txt:=[[115,119,105,116,99,104],[98,114,97,110,99,104],[103,101,110],[108,111,97,100],[115,116,111,114,101]]
def yF (s:Txt) (its:List Ne.Item) (p:Nat×FSt):TM:=[(1, .v .s s),(7, .ref 1 0 5 none),(8,nt p.2.kind),(9,nt p.2.left),(36, .v (.l Zfm) its),(37,nt its.length),(38,nt p.1)]
def hF (netc:List SV) (sizes:List Int):List SM:=[.cell netc true, .row (.i .i64) sizes true]
set_option maxHeartbeats 16000000 in
theorem Ztp (netc:List SV) (s:Txt) (its:List Ne.Item) (sizes:List Int) (R:Option (Nat×Nat)) (hrc:rchL netc=[]) (hl:its.length≤100) (hs:sizes.length=5) (z:FSt) (hz:FI sizes (its.map (·.1)) s R z):
 LoopOK Tryd.prog Zaw 0 ⟨12,0,62⟩ (Zbt Tryd.f12 7) (yF s its (0,z)) (hF netc sizes)
 (fun e tm hp'=>(e= .exit 0∧R=none∧Ent 0 tm hp' [] [])∨(e= .ret∧ ∃k j,R=some (k,j)∧Ent 0 tm hp' [(4, .v .s (W5.getD k [])),(5,nt j)] [])):=by
 refine ZaH Zao rfl (yF s its) (fun _=>hF netc sizes) (fun p=>p.1≤its.length∧FI sizes ((its.drop p.1).map (·.1)) s R p.2) (fun p=>its.length-p.1) ?_ (0,z) ⟨Nat.zero_le _,by rw[List.drop_zero];exact hz⟩ ZaW
 rintro⟨i,z⟩ ⟨hi,hz⟩
 have hi:i≤its.length:=hi
 have hz:FI sizes ((its.drop i).map (·.1)) s R z:=hz
 cases h1:decide ((i:Int)<(its.length:Int))with
 |false=>
  have e:i=its.length:=by have:=of_decide_eq_false h1;omega
  have hR:R=none:=by
   have h:=hz.n
   rw[e,List.drop_length,List.map_nil,List.append_eq_nil_iff]at h
   rw[←hz.g,h.1]
   exact Zj2 s 0 _ _ _ h.2
  refine Zae ?_
  refine Zab ?_
  refine Zaf ?_
  refine brF h1 ?_
  exact .inl ⟨rfl,hR,Zbj trivial⟩
 |true=>
  have hlt:i<its.length:=by have:=of_decide_eq_true h1;omega
  have gx:its[(i:Int).toNat]? =some its[i]:=by rw[Int.toNat_natCast];exact List.getElem?_eq_getElem hlt
  have ed:(its.drop i).map (·.1)=its[i].1::(its.drop (i+1)).map (·.1):=by rw[List.drop_eq_getElem_cons hlt,List.map_cons]
  obtain⟨⟨nm,ns,ap,bad⟩,ex⟩: ∃x,its[i]=x:=⟨_,rfl⟩
  rw[ex]at gx ed
  have hin:=ZrS s its i (hF netc sizes++ [.cell [.v .s nm, .v (.l .s) ns, .v .b ap, .v .b bad] true]) sizes ((its.drop i).map (·.1)) R (by rw[ed];exact List.cons_ne_nil _ _) hs rfl z hz
  refine Zae ?_
  refine Zab ?_
  refine Zaf ?_
  refine brT h1 ?_
  refine Zae ?_
  refine Zbb rfl (fun _=>rfl) (Int.natCast_nonneg i) gx rfl rfl ?_
  refine Zab ?_
  refine ZaR ?_
  refine Zac rfl (ZaB rfl rfl rfl rfl rfl rfl rfl rfl ?_)
  refine Zar rfl ?_
  refine Zaf ?_
  refine(hin.ent ?_).through ?_
  ·exact Zai ⟨rfl,rfl,rfl,rfl,rfl,rfl,rfl,rfl,trivial⟩
  rintro _ tm hp' ⟨rfl,c,t,left,rest,kind,hw,hE⟩
  refine⟨_,_,hE, ?_⟩
  show wp _ _ _ _ _ _ _ _ _
  have hk:kind+rest.length=4:=hw.k
  have hb:left+(c::t).length≤1000:=hw.b.1
  have hcn:=hw.n
  rw[ed]at hcn
  have hc1:c=nm:=(List.cons.inj hcn).1
  have hc2:t++rest.flatten=(its.drop (i+1)).map (·.1):=(List.cons.inj hcn).2
  subst hc1
  have hg:=hw.g
  have hg:goF s (c::t) left rest kind=R:=hg
  rw[Zkf]at hg
  cases h2:(c==s)with
  |true=>
   rw[h2]at hg
   have ci:(0:Int)≤(kind:Int)∧(kind:Int)<((5:Nat):Int):=by omega
   have hword:W5[(0:Nat)+(kind:Int).toNat]? =some (W5.getD kind []):=by
    rw[Int.toNat_natCast,Nat.zero_add,List.getD_eq_getElem?_getD,List.getElem?_eq_getElem (show kind<W5.length by show kind<5;omega)];rfl
   refine Zae ?_
   refine Zab ?_
   refine Zag rfl (fun _=>rfl) rfl rfl rfl ?_
   iterate 2 refine Zab ?_
   refine Zaf ?_
   refine brT h2 ?_
   refine Zae ?_
   refine ZaR ?_
   refine Zab ?_
   refine Zac rfl (Zck rfl rfl rfl rfl rfl rfl rfl ci ?_)
   refine Zaa rfl rfl ?_
   refine Zac rfl (Zcm rfl rfl rfl hword rfl ?_)
   refine Zaa rfl rfl ?_
   iterate 3 refine Zab ?_
   refine Zaf ?_
   refine ZaC ?_
   repeat (first|refine Zay ?_|refine Zax ?_|refine Zav ?_)
   exact .inr ⟨rfl,kind,left,hg.symm,Zbj ⟨rfl,rfl,rfl,rfl,trivial⟩⟩
  |false=>
   rw[h2]at hg
   refine Zae ?_
   refine Zab ?_
   refine Zag rfl (fun _=>rfl) rfl rfl rfl ?_
   iterate 2 refine Zab ?_
   refine Zaf ?_
   refine brF h2 ?_
   refine Zae ?_
   iterate 3 refine Zab ?_
   refine Zaf ?_
   refine Zae ?_
   iterate 2 refine Zab ?_
   refine Zaf ?_
   refine⟨(i+1,⟨t,left+1,rest,kind⟩),⟨hlt,⟨hk, ?_,hw.r,hc2,hg, ?_,hw.b.2⟩⟩,by show its.length-(i+1)<its.length-i;omega, ?_⟩
   ·have:=hw.c
    show sizes[kind]? =some ((left+1+t.length:Nat):Int)
    rw[show left+1+t.length=left+(c::t).length by rw[List.length_cons];omega];exact this
   ·show left+1+t.length≤1000
    rw[List.length_cons]at hb;omega
   ·have hll:left<1000:=by rw[List.length_cons]at hb;omega
    refine ZbQ (hp0:=hF netc sizes) (Nat.zero_le _) ⟨rfl,Za4,rfl,ZeU (by show 1<2;omega),rfl,Za4,congrArg (fun x=>some (SV.v (.i .i64) x)) (Za7 (show left<1000000 by omega)),Za4,rfl,Za4,rfl,Za4,congrArg (fun x=>some (SV.v (.i .i64) x)) (Za7 (by omega)),Za4,trivial⟩ fun m hm id hid=> ?_
    have hm:m∈ [SM.cell netc true, .row (.i .i64) sizes true]:=hm
    simp only[List.mem_cons,List.not_mem_nil,or_false]at hm
    rcases hm with rfl|rfl
    ·rw[Zhk,hrc]at hid;exact absurd hid List.not_mem_nil
    ·exact absurd hid List.not_mem_nil
def goN (n:Ne.Net) (s:Txt):Option (Nat×Nat):=goF s (n.sws.map (·.1)) 0 [n.brs.map (·.1),n.gens.map (·.1),n.loads.map (·.1),n.stores.map (·.1)] 0
def Zd7 (n:Ne.Net) (s:Txt):Txt×Int:=bif decide (Zah s n.nodes 0≥0)then([110,111,100,101],Zah s n.nodes 0)else match goN n s with
 |some (k,j)=>(W5.getD k [],(j:Int))
 |none=>([],0)
set_option maxHeartbeats 16000000 in
theorem Zmd (n:Ne.Net) (s:Txt) (hb:big n=false):PureOK Tryd.prog Zaw 12 [.agg (Za2 n), .v .s s] (fun V=>V= .tup [.v .s (Zd7 n s).1, .v (.i .i64) (Zd7 n s).2]):=by
 refine Zau Zao Tryd.func12 ?_
 have hit:=Zpg n hb
 simp only[big,Bool.or_eq_false_iff,decide_eq_false_iff_not]at hb
 obtain⟨b1,b2,b3,b4,b5,b6⟩:=hb
 have hI:=Zpn n.nodes s (by omega)
 cases h1:decide (Zah s n.nodes 0≥0)with
 |true=>
  have e:Zd7 n s=([110,111,100,101],Zah s n.nodes 0):=by rw[Zd7,h1];rfl
  rw[e]
  refine Zae ?_
  refine ZaR ?_
  iterate 2 refine Zab ?_
  refine Zaf ?_
  refine Zae ?_
  refine Zab ?_
  refine Zag rfl (fun _=>rfl) rfl rfl rfl ?_
  refine Zab ?_
  refine Zac rfl ((hI).mono ?_)
  rintro _ rfl
  refine Zaa rfl rfl ?_
  refine Zab ?_
  refine Zaf ?_
  refine Zae ?_
  iterate 2 refine Zab ?_
  refine Zaf ?_
  refine brT h1 ?_
  refine Zae ?_
  iterate 3 refine Zab ?_
  refine Zaf ?_
  rfl
 |false=>
  have e:Zd7 n s=match goN n s with
   |some (k,j)=>(W5.getD k [],(j:Int))
   |none=>([],0):=by rw[Zd7,h1];rfl
  rw[e]
  have hlen:(ZjJ n).length≤100:=by
   simp only[ZjJ,List.length_append,List.length_map]
   omega
  have hz:FI [(n.sws.length:Int),(n.brs.length:Int),(n.gens.length:Int),(n.loads.length:Int),(n.stores.length:Int)] ((ZjJ n).map (·.1)) s (goN n s) ⟨n.sws.map (·.1),0,[n.brs.map (·.1),n.gens.map (·.1),n.loads.map (·.1),n.stores.map (·.1)],0⟩:=by
   refine⟨rfl, ?_,fun j l hj=> ?_, ?_,rfl, ?_, ?_⟩
   ·show some (n.sws.length:Int)=some ((0+(n.sws.map (·.1)).length:Nat):Int)
    rw[List.length_map,Nat.zero_add]
   ·match j,hj with
    |0,hj=>cases hj;show some (n.brs.length:Int)=_;rw[List.length_map]
    |1,hj=>cases hj;show some (n.gens.length:Int)=_;rw[List.length_map]
    |2,hj=>cases hj;show some (n.loads.length:Int)=_;rw[List.length_map]
    |3,hj=>cases hj;show some (n.stores.length:Int)=_;rw[List.length_map]
    |j+4,hj=>cases hj
   ·simp only[ZjJ,List.map_append,List.map_map,List.flatten_cons,List.flatten_nil,List.append_nil];rfl
   ·show 0+(n.sws.map (·.1)).length≤1000
    rw[List.length_map];omega
   ·intro l hm
    simp only[List.mem_cons,List.not_mem_nil,or_false]at hm
    rcases hm with rfl|rfl|rfl|rfl<;>rw[List.length_map]<;>omega
  have hloop:=Ztp (Za2 n) s (ZjJ n) _ _ (ZbS n) hlen rfl _ hz
  refine Zae ?_
  refine ZaR ?_
  iterate 2 refine Zab ?_
  refine Zaf ?_
  refine Zae ?_
  refine Zab ?_
  refine Zag rfl (fun _=>rfl) rfl rfl rfl ?_
  refine Zab ?_
  refine Zac rfl ((hI).mono ?_)
  rintro _ rfl
  refine Zaa rfl rfl ?_
  refine Zab ?_
  refine Zaf ?_
  refine Zae ?_
  iterate 2 refine Zab ?_
  refine Zaf ?_
  refine brF h1 ?_
  refine Zae ?_
  refine Zab ?_
  refine Zag rfl (fun _=>rfl) rfl rfl rfl ?_
  iterate 2 refine Zab ?_
  refine Zag rfl (fun _=>rfl) rfl rfl rfl ?_
  iterate 2 refine Zab ?_
  refine Zag rfl (fun _=>rfl) rfl rfl rfl ?_
  iterate 2 refine Zab ?_
  refine Zag rfl (fun _=>rfl) rfl rfl rfl ?_
  iterate 2 refine Zab ?_
  refine Zag rfl (fun _=>rfl) rfl rfl rfl ?_
  refine Zab ?_
  refine ZaR ?_
  refine Zab ?_
  refine Zaf ?_
  refine Zae ?_
  iterate 2 refine Zab ?_
  refine Zaf ?_
  refine Zae ?_
  refine Zag rfl (fun _=>rfl) rfl rfl rfl ?_
  refine Zac rfl ((hit).mono ?_)
  rintro _ rfl
  refine Zaa rfl rfl ?_
  iterate 2 refine Zab ?_
  refine Zaf ?_
  refine(hloop.ent ?_).through ?_
  ·exact Zai ⟨rfl,rfl,rfl,rfl,rfl,rfl,rfl,trivial⟩
  rintro _ tm hp' (⟨rfl,hR,hE⟩|⟨rfl,k,j,hR,hE⟩)
  ·refine⟨_,_,hE, ?_⟩
   rw[hR]
   show wp _ _ _ _ _ _ _ _ _
   refine Zae ?_
   iterate 2 refine Zab ?_
   refine Zaf ?_
   rfl
  ·refine⟨_,_,hE, ?_⟩
   rw[hR]
   rfl
end Go.Proofs.YtgngdcpglnfkeaaDoor
