/- The name and the nodes of a device. -/
import Derived.Test.YtapbiodcncnnfaaGreatDoorT9
set_option linter.all false
set_option maxHeartbeats 32000000
set_option maxRecDepth 100000
namespace Go.Proofs.YtapbiodcncnnfaaGreatDoor
open Go.Am Go.Tx Ne
theorem Zl5 (s:Txt): ∀ks:List Txt,Zq0 s ks=Zdg s ks
 | []=>rfl
 |k::r=>by rw[Zq0,Zdg,Zl5 s r]
abbrev ZeB (name:Txt) (ns:List Txt):Ne.Item:=(name,ns,decide (ns.length=2),false)
theorem Zpg {α:Type} {l r:List α} {i:Nat} {x y:α} (h:nth l i=some y):(l++r).set i x=l.set i x++r:=by
 rw[List.set_append_left _ _ (ZpP h)]
theorem ZkF {α:Type} {l r:List α} {i:Nat} {y:α} (h:nth l i=some y):nth (l++r) i=some y:=by
 have j:=ZpP h
 rw[Za5]at h⊢
 rw[Xar j,h]
theorem ZkW {α:Type} {a:List α} {x:α} {r:List α}:nth (a++x::r) a.length=some x:=by
 rw[Za5,XaE (Xan _),Nat.sub_self];rfl
theorem Zwz {P:Program} {h:Hints} {T:TypeId→TI} {F:Nat} {c:Cx} {b:Code} {tm:TM} {hp hp':List SM} {k:Ex→TM→List SM→Prop} (e:hp=hp') (hw:wp P h T F c b tm hp' k):wp P h T F c b tm hp k:=e▸hw
def vDv (nodes:List Txt) (L j n i:Nat):TM:=[(2, .ref j 0 n none),(3, .ptr L 0 0),(21, .ref j 0 n none),(22,nt n),(23,nt i)]
theorem Zun (hp:List SM) (U L j base:Nat) (nodes ns:List Txt) (hn:nodes.length≤1000) (aa:ns.length≤1000) (hL:nth hp L=some (.cell [.mp U, .v (.l .s) nodes] true)) (hr:nth hp j=some (.row .s ns true)) (F:Nat):
 LoopOK Tryz.prog Zao F ⟨35,base,45⟩ (Za4 Tryz.f35 7) (vDv nodes L j ns.length 0) hp
 (fun e tm hp'=>(e= .exit 1∧(ns.all fun s=>Zdg s nodes)=true∧Ent F tm hp' [(2, .ref j 0 ns.length none),(3, .ptr L 0 0)] hp)∨(e= .ret∧(ns.all fun s=>Zdg s nodes)=false∧Ent F tm hp' [(6, .v (.i .i64) (6:Int))] hp)):=by
 refine Zaw Zag rfl (vDv nodes L j ns.length) (fun _=>hp) (fun i=>i≤ns.length∧(ns.all fun s=>Zdg s nodes)=((ns.drop i).all fun s=>Zdg s nodes)) (fun i=>ns.length-i) ?_ 0 ⟨Xao _,rfl⟩ ZaJ
 rintro i ⟨hi,he⟩
 cases J:decide ((i:Int)<(ns.length:Int))with
 |false=>
  have e:i=ns.length:=by have:=of_decide_eq_false J;omega
  refine Zae ?_
  refine Zac ?_
  refine Zaf ?_
  refine brF J ?_
  exact .inl ⟨rfl,by rw[he,e,Xbm];rfl,Zaq ⟨rfl,rfl,trivial⟩⟩
 |true=>
  have C:i<ns.length:=by have:=of_decide_eq_true J;omega
  have ci:=cin C
  have gx:ns[0+(i:Int).toNat]? =some ns[i]:=by rw[Xad,Xaq];exact Xac C
  have I:((ns.drop i).all fun s=>Zdg s nodes)=(Zdg ns[i] nodes&&(ns.drop (i+1)).all fun s=>Zdg s nodes):=by rw[Xaz C,XbL]
  obtain⟨x,ex⟩: ∃x,ns[i]=x:=⟨_,rfl⟩
  rw[ex]at gx I
  have R:=ZpT nodes x hn
  refine Zae ?_
  refine Zac ?_
  refine Zaf ?_
  refine brT J ?_
  refine Zae ?_
  refine Zad rfl (ZaB rfl rfl rfl rfl rfl hr rfl ci ?_)
  refine Zaa rfl rfl ?_
  refine Zad rfl (ZaN rfl rfl hr gx rfl ?_)
  refine Zaa rfl rfl ?_
  refine Zac ?_
  refine Zaf ?_
  cases h2:Zdg x nodes with
  |true=>
   rw[h2]at R I
   refine Zae ?_
   refine Zac ?_
   refine Zad rfl (ZbN rfl rfl hL rfl rfl ?_)
   refine Zaa rfl rfl ?_
   refine Zac ?_
   refine Zad rfl ((R).mono ?_)
   rintro _ rfl
   refine Zaa rfl rfl ?_
   refine Zac ?_
   refine Zaf ?_
   refine brF rfl ?_
   refine Zae ?_
   iterate 2 refine Zac ?_
   refine Zaf ?_
   refine⟨i+1,⟨C,he.trans I⟩,by show ns.length-(i+1)<ns.length-i;omega, ?_⟩
   exact Zaq ⟨rfl,rfl,rfl,rfl,congrArg (fun x=>some (SV.v (.i .i64) x)) (Zca (by omega)),trivial⟩
  |false=>
   rw[h2]at R I
   refine Zae ?_
   refine Zac ?_
   refine Zad rfl (ZbN rfl rfl hL rfl rfl ?_)
   refine Zaa rfl rfl ?_
   refine Zac ?_
   refine Zad rfl ((R).mono ?_)
   rintro _ rfl
   refine Zaa rfl rfl ?_
   refine Zac ?_
   refine Zaf ?_
   refine brT rfl ?_
   refine Zae ?_
   refine Zac ?_
   refine Zaf ?_
   refine ZaR ?_
   repeat (first|refine ZaF ?_|refine ZaG ?_|refine Zaz ?_)
   exact .inr ⟨rfl,he.trans I,Zaq ⟨rfl,trivial⟩⟩
def ZBp (hp:List SM) (j:Nat) (nodes ks:List Txt) (name:Txt) (ns:List Txt) (V:SV) (hp':List SM):Prop:=
 V= .v (.i .i64) (Zbl nodes ks (ZeB name ns))∧(Zbl nodes ks (ZeB name ns)=0→ ∃ex,hp'=hp.set j (.set (ks++ [name]))++ex)
theorem Zpe {nodes ks:List Txt} {it:Ne.Item} (h:Zbu it.1=false):Zbl nodes ks it=5:=by rw[Zbl,h];rfl
theorem ZpH {nodes ks:List Txt} {it:Ne.Item} (h:Zbu it.1=true) (j:Zdg it.1 ks=true):Zbl nodes ks it=7:=by rw[Zbl,h,j];rfl
theorem Zve {nodes ks:List Txt} {it:Ne.Item} (h:Zbu it.1=true) (j:Zdg it.1 ks=false) (C:(it.2.1.all fun s=>Zdg s nodes)=false):Zbl nodes ks it=6:=by rw[Zbl,h,j,C];rfl
theorem Zmo {nodes ks:List Txt} {it:Ne.Item} (h:Zbu it.1=true) (j:Zdg it.1 ks=false) (C:(it.2.1.all fun s=>Zdg s nodes)=true):Zbl nodes ks it=bif it.2.2.1&&(it.2.1.getD 0 []==it.2.1.getD 1 [])then 3 else bif it.2.2.2 then 4 else 0:=by rw[Zbl,h,j,C];rfl
theorem Zgx (hp:List SM) (j J:Nat) (nodes ks:List Txt) (name:Txt) (ns:List Txt) (hs:name.length≤9223372036854775806) (hn:nodes.length≤1000) (ad:ns.length≤1000) (hm:nth hp j=some (.set ks)) (hr:nth hp J=some (.row .s ns true)) (ai:J≠j):
 OpenOK Tryz.prog Zao 35 [.agg [.mp j, .v (.l .s) nodes], .v .s name, .ref J 0 ns.length none] hp (ZBp hp j nodes ks name ns):=by
 refine Zd2 (fn:=Tryz.f35) (code:=Zbn Tryz.f35) Zag (by kernel_rfl) Tryz.func35 (by kernel_rfl) (Xal (by kernel_rfl)) ?_
 intro base
 have hN:=ZvY name hs
 have U:nth (hp++ [SM.cell [.mp j, .v (.l .s) nodes] true]) hp.length=some (.cell [.mp j, .v (.l .s) nodes] true):=ZkW
 have aa:nth (hp++ [SM.cell [.mp j, .v (.l .s) nodes] true]) j=some (.set ks):=ZkF hm
 cases h1:Zbu name with
 |false=>
  rw[h1]at hN
  have C:=Zpe (nodes:=nodes) (ks:=ks) (it:=ZeB name ns) h1
  refine Zae ?_
  refine ZbB ?_
  refine Zac ?_
  refine Zaf ?_
  refine Zae ?_
  refine Zac ?_
  refine Zad rfl ((hN).mono ?_)
  rintro _ rfl
  refine Zaa rfl rfl ?_
  iterate 2 refine Zac ?_
  refine Zaf ?_
  refine brT rfl ?_
  refine Zae ?_
  refine Zac ?_
  refine Zaf ?_
  exact⟨congrArg (fun x=>SV.v (.i .i64) x) C.symm,fun h=>by rw[C]at h;cases h⟩
 |true=>
  rw[h1]at hN
  cases h2:Zq0 name ks with
  |true=>
   have C:=ZpH (nodes:=nodes) (it:=ZeB name ns) h1 ((Zl5 name ks).symm.trans h2)
   refine Zae ?_
   refine ZbB ?_
   refine Zac ?_
   refine Zaf ?_
   refine Zae ?_
   refine Zac ?_
   refine Zad rfl ((hN).mono ?_)
   rintro _ rfl
   refine Zaa rfl rfl ?_
   iterate 2 refine Zac ?_
   refine Zaf ?_
   refine brF rfl ?_
   refine Zae ?_
   refine Zac ?_
   refine Zad rfl (ZbN rfl rfl U rfl rfl ?_)
   refine Zaa rfl rfl ?_
   refine Zac ?_
   refine Zad rfl (Zz2 rfl rfl rfl rfl aa ?_)
   refine Zaa rfl rfl ?_
   refine Zac ?_
   refine Zaf ?_
   refine brT h2 ?_
   refine Zae ?_
   refine Zac ?_
   refine Zaf ?_
   exact⟨congrArg (fun x=>SV.v (.i .i64) x) C.symm,fun h=>by rw[C]at h;cases h⟩
  |false=>
   have ae:Zdg name ks=false:=(Zl5 name ks).symm.trans h2
   have af:(hp++ [SM.cell [.mp j, .v (.l .s) nodes] true]).set j (.set (ZuE name ks))=hp.set j (.set (ks++ [name]))++ [.cell [.mp j, .v (.l .s) nodes] true]:=by rw[Zpg hm,ZkQ h2]
   have aj:nth (hp.set j (.set (ks++ [name]))++ [SM.cell [.mp j, .v (.l .s) nodes] true]) hp.length=some (.cell [.mp j, .v (.l .s) nodes] true):=by
    have:=ZkW (a:=hp.set j (SM.set (ks++ [name]))) (x:=SM.cell [.mp j, .v (.l .s) nodes] true) (r:=[])
    rwa[XaN]at this
   have I:nth (hp.set j (.set (ks++ [name]))++ [SM.cell [.mp j, .v (.l .s) nodes] true]) J=some (.row .s ns true):=ZkF (by rw[Zmd fun e=>ai e.symm];exact hr)
   have ab:=Zun (hp.set j (.set (ks++ [name]))++ [SM.cell [.mp j, .v (.l .s) nodes] true]) j hp.length J base nodes ns hn ad aj I hp.length
   have ag:=Zmo (nodes:=nodes) (it:=ZeB name ns) h1 ae
   have ah:=Zve (nodes:=nodes) (it:=ZeB name ns) h1 ae
   refine Zae ?_
   refine ZbB ?_
   refine Zac ?_
   refine Zaf ?_
   refine Zae ?_
   refine Zac ?_
   refine Zad rfl ((hN).mono ?_)
   rintro _ rfl
   refine Zaa rfl rfl ?_
   iterate 2 refine Zac ?_
   refine Zaf ?_
   refine brF rfl ?_
   refine Zae ?_
   refine Zac ?_
   refine Zad rfl (ZbN rfl rfl U rfl rfl ?_)
   refine Zaa rfl rfl ?_
   refine Zac ?_
   refine Zad rfl (Zz2 rfl rfl rfl rfl aa ?_)
   refine Zaa rfl rfl ?_
   refine Zac ?_
   refine Zaf ?_
   refine brF h2 ?_
   refine Zae ?_
   refine Zac ?_
   refine Zad rfl (ZbN rfl rfl U rfl rfl ?_)
   refine Zaa rfl rfl ?_
   refine Zac ?_
   refine Zad rfl (ZBn rfl rfl rfl rfl rfl aa ?_)
   refine ZaC rfl ?_
   refine Zaf ?_
   refine Zae ?_
   iterate 3 refine Zac ?_
   refine Zaf ?_
   refine Zwz af ?_
   refine(ab.ent ?_).through ?_
   ·exact Zaq ⟨rfl,rfl,rfl,rfl,rfl,trivial⟩
   rintro _ tm hp' (⟨rfl,ha,hE⟩|⟨rfl,ha,hE⟩)
   ·refine⟨_,_,hE, ?_⟩
    show wp _ _ _ _ _ _ _ _ _
    have C:=ag ha
    match ns,ad,hr,I,ha,C with
    | [a,b],_,_,I,ha,C=>
     have c0:(0:Int)≤(0:Int)∧(0:Int)<((2:Nat):Int):=by omega
     have c1:(0:Int)≤(1:Int)∧(1:Int)<((2:Nat):Int):=by omega
     have C:Zbl nodes ks (ZeB name [a,b])=bif a==b then 3 else 0:=C
     cases h5:(a==b)with
     |true=>
      rw[h5]at C
      refine Zae ?_
      iterate 4 refine Zac ?_
      refine Zab rfl ?_
      refine Zam rfl rfl rfl rfl (ZaB rfl rfl rfl rfl rfl I rfl c0 ?_)
      refine Zaa rfl rfl ?_
      refine Zam rfl rfl rfl rfl (ZaN rfl rfl I rfl rfl ?_)
      refine Zaa rfl rfl ?_
      refine Zab rfl ?_
      refine Zam rfl rfl rfl rfl (ZaB rfl rfl rfl rfl rfl I rfl c1 ?_)
      refine Zaa rfl rfl ?_
      refine Zam rfl rfl rfl rfl (ZaN rfl rfl I rfl rfl ?_)
      refine Zaa rfl rfl ?_
      refine Zab rfl ?_
      refine Zat rfl ?_
      refine Zaf ?_
      refine brT h5 ?_
      refine Zae ?_
      refine Zac ?_
      refine Zaf ?_
      exact⟨congrArg (fun x=>SV.v (.i .i64) x) C.symm,fun h=>by rw[C]at h;cases h⟩
     |false=>
      rw[h5]at C
      refine Zae ?_
      iterate 4 refine Zac ?_
      refine Zab rfl ?_
      refine Zam rfl rfl rfl rfl (ZaB rfl rfl rfl rfl rfl I rfl c0 ?_)
      refine Zaa rfl rfl ?_
      refine Zam rfl rfl rfl rfl (ZaN rfl rfl I rfl rfl ?_)
      refine Zaa rfl rfl ?_
      refine Zab rfl ?_
      refine Zam rfl rfl rfl rfl (ZaB rfl rfl rfl rfl rfl I rfl c1 ?_)
      refine Zaa rfl rfl ?_
      refine Zam rfl rfl rfl rfl (ZaN rfl rfl I rfl rfl ?_)
      refine Zaa rfl rfl ?_
      refine Zab rfl ?_
      refine Zat rfl ?_
      refine Zaf ?_
      refine brF h5 ?_
      refine Zae ?_
      refine Zac ?_
      refine Zaf ?_
      exact⟨congrArg (fun x=>SV.v (.i .i64) x) C.symm,fun _=>⟨_,rfl⟩⟩
    | [],_,_,_,_,C=>
     refine Zae ?_
     iterate 4 refine Zac ?_
     refine Zah rfl ?_
     refine Zah rfl ?_
     refine Zah rfl ?_
     refine Zah rfl ?_
     refine Zah rfl ?_
     refine Zah rfl ?_
     refine Zah rfl ?_
     refine Zal rfl ?_
     refine Zaf ?_
     refine brF rfl ?_
     refine Zae ?_
     refine Zac ?_
     refine Zaf ?_
     exact⟨congrArg (fun x=>SV.v (.i .i64) x) C.symm,fun _=>⟨_,rfl⟩⟩
    | [_],_,_,_,_,C=>
     refine Zae ?_
     iterate 4 refine Zac ?_
     refine Zah rfl ?_
     refine Zah rfl ?_
     refine Zah rfl ?_
     refine Zah rfl ?_
     refine Zah rfl ?_
     refine Zah rfl ?_
     refine Zah rfl ?_
     refine Zal rfl ?_
     refine Zaf ?_
     refine brF rfl ?_
     refine Zae ?_
     refine Zac ?_
     refine Zaf ?_
     exact⟨congrArg (fun x=>SV.v (.i .i64) x) C.symm,fun _=>⟨_,rfl⟩⟩
    |a::b::c::r,_,_,_,_,C=>
     have R:decide (((a::b::c::r).length:Int)=(2:Int))=false:=by rw[decide_eq_false_iff_not,Xap,Xap,Xap];omega
     have h7:decide ((a::b::c::r).length=2)=false:=by rw[decide_eq_false_iff_not,Xap,Xap,Xap];omega
     have C:Zbl nodes ks (ZeB name (a::b::c::r))=0:=by rw[C];show(bif decide ((a::b::c::r).length=2)&&_ then(3:Int)else _)=0;rw[h7];rfl
     refine Zae ?_
     iterate 4 refine Zac ?_
     refine Zah R ?_
     refine Zah R ?_
     refine Zah R ?_
     refine Zah R ?_
     refine Zah R ?_
     refine Zah R ?_
     refine Zah R ?_
     refine Zal R ?_
     refine Zaf ?_
     refine brF rfl ?_
     refine Zae ?_
     refine Zac ?_
     refine Zaf ?_
     exact⟨congrArg (fun x=>SV.v (.i .i64) x) C.symm,fun _=>⟨_,rfl⟩⟩
   ·have C:=ah ha
    refine⟨_,_,hE, ?_⟩
    exact⟨congrArg (fun x=>SV.v (.i .i64) x) C.symm,fun h=>by rw[C]at h;cases h⟩
theorem Zvi (hp:List SM) (j:Nat) (nodes ks:List Txt) (name:Txt) (hs:name.length≤9223372036854775806) (hm:nth hp j=some (.set ks)):
 OpenOK Tryz.prog Zao 35 [.agg [.mp j, .v (.l .s) nodes], .v .s name, .nils] hp (ZBp hp j nodes ks name []):=by
 refine Zd2 (fn:=Tryz.f35) (code:=Zbn Tryz.f35) Zag (by kernel_rfl) Tryz.func35 (by kernel_rfl) (Xal (by kernel_rfl)) ?_
 intro base
 have hN:=ZvY name hs
 have C:nth (hp++ [SM.cell [.mp j, .v (.l .s) nodes] true]) hp.length=some (.cell [.mp j, .v (.l .s) nodes] true):=ZkW
 have I:nth (hp++ [SM.cell [.mp j, .v (.l .s) nodes] true]) j=some (.set ks):=ZkF hm
 cases R:Zbu name with
 |false=>
  rw[R]at hN
  have J:=Zpe (nodes:=nodes) (ks:=ks) (it:=ZeB name []) R
  refine Zae ?_
  refine ZbB ?_
  refine Zac ?_
  refine Zaf ?_
  refine Zae ?_
  refine Zac ?_
  refine Zad rfl ((hN).mono ?_)
  rintro _ rfl
  refine Zaa rfl rfl ?_
  iterate 2 refine Zac ?_
  refine Zaf ?_
  refine brT rfl ?_
  refine Zae ?_
  refine Zac ?_
  refine Zaf ?_
  exact⟨congrArg (fun x=>SV.v (.i .i64) x) J.symm,fun h=>by rw[J]at h;cases h⟩
 |true=>
  rw[R]at hN
  cases U:Zq0 name ks with
  |true=>
   have J:=ZpH (nodes:=nodes) (it:=ZeB name []) R ((Zl5 name ks).symm.trans U)
   refine Zae ?_
   refine ZbB ?_
   refine Zac ?_
   refine Zaf ?_
   refine Zae ?_
   refine Zac ?_
   refine Zad rfl ((hN).mono ?_)
   rintro _ rfl
   refine Zaa rfl rfl ?_
   iterate 2 refine Zac ?_
   refine Zaf ?_
   refine brF rfl ?_
   refine Zae ?_
   refine Zac ?_
   refine Zad rfl (ZbN rfl rfl C rfl rfl ?_)
   refine Zaa rfl rfl ?_
   refine Zac ?_
   refine Zad rfl (Zz2 rfl rfl rfl rfl I ?_)
   refine Zaa rfl rfl ?_
   refine Zac ?_
   refine Zaf ?_
   refine brT U ?_
   refine Zae ?_
   refine Zac ?_
   refine Zaf ?_
   exact⟨congrArg (fun x=>SV.v (.i .i64) x) J.symm,fun h=>by rw[J]at h;cases h⟩
  |false=>
   have ab:Zdg name ks=false:=(Zl5 name ks).symm.trans U
   have aa:(hp++ [SM.cell [.mp j, .v (.l .s) nodes] true]).set j (.set (ZuE name ks))=hp.set j (.set (ks++ [name]))++ [.cell [.mp j, .v (.l .s) nodes] true]:=by rw[Zpg hm,ZkQ U]
   have J:Zbl nodes ks (ZeB name [])=0:=Zmo (nodes:=nodes) (it:=ZeB name []) R ab rfl
   refine Zae ?_
   refine ZbB ?_
   refine Zac ?_
   refine Zaf ?_
   refine Zae ?_
   refine Zac ?_
   refine Zad rfl ((hN).mono ?_)
   rintro _ rfl
   refine Zaa rfl rfl ?_
   iterate 2 refine Zac ?_
   refine Zaf ?_
   refine brF rfl ?_
   refine Zae ?_
   refine Zac ?_
   refine Zad rfl (ZbN rfl rfl C rfl rfl ?_)
   refine Zaa rfl rfl ?_
   refine Zac ?_
   refine Zad rfl (Zz2 rfl rfl rfl rfl I ?_)
   refine Zaa rfl rfl ?_
   refine Zac ?_
   refine Zaf ?_
   refine brF U ?_
   refine Zae ?_
   refine Zac ?_
   refine Zad rfl (ZbN rfl rfl C rfl rfl ?_)
   refine Zaa rfl rfl ?_
   refine Zac ?_
   refine Zad rfl (ZBn rfl rfl rfl rfl rfl I ?_)
   refine ZaC rfl ?_
   refine Zaf ?_
   refine Zae ?_
   iterate 3 refine Zac ?_
   refine Zaf ?_
   refine Zwz aa ?_
   refine Zaw Zag rfl (fun(_:Unit)=> [(2, .nils),(21, .nils),(22,nt 0),(23,nt 0)]) (fun _=>hp.set j (.set (ks++ [name]))++ [SM.cell [.mp j, .v (.l .s) nodes] true]) (fun _=>True) (fun _=>0) ?_ () trivial (Zaq ⟨rfl,rfl,rfl,rfl,trivial⟩)
   rintro _ _
   refine Zae ?_
   refine Zac ?_
   refine Zaf ?_
   refine brF rfl ?_
   refine Zae ?_
   iterate 4 refine Zac ?_
   refine Zah rfl ?_
   refine Zah rfl ?_
   refine Zah rfl ?_
   refine Zah rfl ?_
   refine Zah rfl ?_
   refine Zah rfl ?_
   refine Zah rfl ?_
   refine Zal rfl ?_
   refine Zaf ?_
   refine brF rfl ?_
   refine Zae ?_
   refine Zac ?_
   refine Zaf ?_
   exact⟨congrArg (fun x=>SV.v (.i .i64) x) J.symm,fun _=>⟨_,rfl⟩⟩
section
variable {α : Type} (f : α → Ne.Item) (ks0 : List Txt) (l : List α)
def ZaO (i:Nat):List Txt:=ks0++(l.take i).map fun x=>(f x).1
variable {f ks0 l}
theorem Zcp {i:Nat} {x:α} (j:l[i]? =some x):ZaO f ks0 l i++ [(f x).1]=ZaO f ks0 l (i+1):=by
 rw[ZaO,ZaO,Xbn,List.take_add_one,j];simp
theorem Zex {i:Nat} (h:i=l.length):ZaO f ks0 l i=ks0++l.map fun x=>(f x).1:=by
 rw[ZaO,Xay (by omega)]
theorem ZeV {nodes:List Txt} {i:Nat} {x:α} (j:l[i]? =some x) (e:Zbl nodes (ZaO f ks0 l i) (f x)=0):
 ZaI nodes (ZaO f ks0 l i) ((l.drop i).map f)=ZaI nodes (ZaO f ks0 l (i+1)) ((l.drop (i+1)).map f):=by
 obtain⟨hi,rfl⟩:=Xae.1 j
 rw[Xaz hi,Xbb,ZaI,decide_eq_true e,←Zcp j]
theorem Zbo {nodes:List Txt} {i:Nat} {x:α} (j:l[i]? =some x) (e:Zbl nodes (ZaO f ks0 l i) (f x)≠0):
 ZaI nodes (ZaO f ks0 l i) ((l.drop i).map f)=Zbl nodes (ZaO f ks0 l i) (f x):=by
 obtain⟨hi,rfl⟩:=Xae.1 j
 rw[Xaz hi,Xbb,ZaI,decide_eq_false e]
end
def hB (j:List SV) (nodes ks:List Txt):List SM:=[.cell j true, .set ks, .cell [.mp 1, .v (.l .s) nodes] true]
theorem ZrM {j:List SV} {nodes ks:List Txt} (C:rchL j=[]): ∀m∈hB j nodes ks,∀id∈ZiL m,id<3:=by
 intro m hm id hid
 simp only[hB,Xav,XaU,or_false]at hm
 rcases hm with rfl|rfl|rfl
 ·rw[ZiL,C]at hid;exact absurd hid XaU
 ·exact absurd hid XaU
 ·have h:id=1:=by simpa[ZiL,rchL,Zdt]using hid
  omega
def vNo (nodes:List Txt) (i:Nat):TM:=[(1, .ptr 0 0 0),(3, .ptr 2 0 0),(53, .v (.l .s) nodes),(54,nt nodes.length),(55,nt i)]
theorem ZwO (j:List SV) (nodes:List Txt) (hr:rchL j=[]) (hn:nodes.length≤1000) (hs: ∀x∈nodes,x.length≤9223372036854775806):
 LoopOK Tryz.prog Zao 0 ⟨17,0,114⟩ (Za4 Tryz.f17 5) (vNo nodes 0) (hB j nodes [])
 (fun e tm hp'=>(e= .exit 0∧ZaI nodes [] (nodes.map noI)=0∧Ent 0 tm hp' [(1, .ptr 0 0 0),(3, .ptr 2 0 0)] (hB j nodes nodes))∨(e= .ret∧ZaI nodes [] (nodes.map noI)≠0∧Ent 0 tm hp' [(2, .v (.i .i64) (ZaI nodes [] (nodes.map noI)))] [])):=by
 refine Zaw Zag rfl (vNo nodes) (fun i=>hB j nodes (ZaO noI [] nodes i)) (fun i=>i≤nodes.length∧ZaI nodes [] (nodes.map noI)=ZaI nodes (ZaO noI [] nodes i) ((nodes.drop i).map noI)) (fun i=>nodes.length-i) ?_ 0 ⟨Xao _,rfl⟩ ZaJ
 rintro i ⟨hi,he⟩
 cases R:decide ((i:Int)<(nodes.length:Int))with
 |false=>
  have e:i=nodes.length:=by have:=of_decide_eq_false R;omega
  have e0:ZaI nodes [] (nodes.map noI)=0:=by rw[he,e,Xbm];rfl
  have em:ZaO noI [] nodes i=nodes:=by rw[Zex e];exact List.map_id' nodes
  refine Zae ?_
  refine Zac ?_
  refine Zaf ?_
  refine brF R ?_
  refine .inl ⟨rfl,e0, ?_⟩
  rw[em]
  exact Zaq ⟨rfl,rfl,trivial⟩
 |true=>
  have I:i<nodes.length:=by have:=of_decide_eq_true R;omega
  have C:nodes[i]? =some nodes[i]:=Xac I
  have gx:nodes[(i:Int).toNat]? =some nodes[i]:=by rw[Xad];exact C
  have hx:nodes[i].length≤9223372036854775806:=hs _ (Xax I)
  obtain⟨x,ex⟩: ∃x,nodes[i]=x:=⟨_,rfl⟩
  rw[ex]at gx C hx
  have aa:nth (hB j nodes (ZaO noI [] nodes i)) 2=some (.cell [.mp 1, .v (.l .s) nodes] true):=rfl
  have hD:=Zvi (hB j nodes (ZaO noI [] nodes i)) 1 nodes (ZaO noI [] nodes i) x hx rfl
  refine Zae ?_
  refine Zac ?_
  refine Zaf ?_
  refine brT R ?_
  refine Zae ?_
  refine Zbb rfl (fun _=>rfl) (Xaj i) gx rfl rfl ?_
  iterate 2 refine Zac ?_
  refine Zaf ?_
  refine Zae ?_
  refine Zad rfl (ZbN rfl rfl aa rfl rfl ?_)
  refine Zaa rfl rfl ?_
  refine Zac ?_
  refine Zad rfl ((hD.mono ?_))
  rintro _ hp' ⟨rfl,hX⟩
  refine Zaa rfl rfl ?_
  refine Zac ?_
  refine Zaf ?_
  cases U:decide (Zbl nodes (ZaO noI [] nodes i) (ZeB x [])=0)with
  |true=>
   have J:=of_decide_eq_true U
   have hc:(!decide (Zbl nodes (ZaO noI [] nodes i) (ZeB x [])=0))=false:=by rw[U];rfl
   refine Zae ?_
   iterate 2 refine Zac ?_
   refine Zaf ?_
   refine brF hc ?_
   refine Zae ?_
   iterate 2 refine Zac ?_
   refine Zaf ?_
   refine⟨i+1,⟨I,he.trans (ZeV C J)⟩,by show nodes.length-(i+1)<nodes.length-i;omega, ?_⟩
   obtain⟨ex,rfl⟩:=hX J
   have em:(hB j nodes (ZaO noI [] nodes i)).set 1 (.set (ZaO noI [] nodes i++ [x]))=hB j nodes (ZaO noI [] nodes (i+1)):=congrArg (hB j nodes) (Zcp (f:=noI) C)
   rw[em]
   exact Zfs (Xao _) ⟨rfl,ZbG (by show 0<3;omega),rfl,ZbG (by show 2<3;omega),rfl,ZcA,rfl,ZcA,congrArg (fun x=>some (SV.v (.i .i64) x)) (Zca (by omega)),ZcA,trivial⟩ (ZrM hr)
  |false=>
   have J:=of_decide_eq_false U
   have hc:(!decide (Zbl nodes (ZaO noI [] nodes i) (ZeB x [])=0))=true:=by rw[U];rfl
   refine Zae ?_
   iterate 2 refine Zac ?_
   refine Zaf ?_
   refine brT hc ?_
   refine Zae ?_
   iterate 2 refine Zac ?_
   refine Zaf ?_
   refine ZaR ?_
   repeat (first|refine ZaF ?_|refine ZaG ?_|refine Zaz ?_)
   have e3:=he.trans (Zbo C J)
   exact .inr ⟨rfl,fun h=>J (e3.symm.trans h),Zbz ⟨congrArg (fun x=>some (SV.v (.i .i64) x)) e3.symm,rfl,trivial⟩⟩
abbrev ZlD:CT:= .p .s (.p .s (.p .s (.p .b .b)))
def vSw (sws:List Sw) (i:Nat):TM:=[(1, .ptr 0 0 0),(3, .ptr 2 0 0),(67, .v (.l ZlD) sws),(68,nt sws.length),(69,nt i)]
theorem Zxu (j:List SV) (nodes ks:List Txt) (sws:List Sw) (hr:rchL j=[]) (hn:nodes.length≤1000) (hl:sws.length≤1000) (hs: ∀x∈sws,x.1.length≤9223372036854775806):
 LoopOK Tryz.prog Zao 0 ⟨17,0,114⟩ (Za4 Tryz.f17 12) (vSw sws 0) (hB j nodes ks)
 (fun e tm hp'=>(e= .exit 2∧ZaI nodes ks (sws.map swI)=0∧Ent 0 tm hp' [(1, .ptr 0 0 0),(3, .ptr 2 0 0)] (hB j nodes (ks++sws.map (·.1))))∨(e= .ret∧ZaI nodes ks (sws.map swI)≠0∧Ent 0 tm hp' [(2, .v (.i .i64) (ZaI nodes ks (sws.map swI)))] [])):=by
 refine Zaw Zag rfl (vSw sws) (fun i=>hB j nodes (ZaO swI ks sws i)) (fun i=>i≤sws.length∧ZaI nodes ks (sws.map swI)=ZaI nodes (ZaO swI ks sws i) ((sws.drop i).map swI)) (fun i=>sws.length-i) ?_ 0 ⟨Xao _,by rw[ZaO,Xa5,Xa3,XaF,XaB]⟩ ?_
 case refine_2=>
  have e0:ZaO swI ks sws 0=ks:=by rw[ZaO,Xa5,Xa3,XaF]
  rw[e0];exact ZaJ
 rintro i ⟨hi,he⟩
 cases R:decide ((i:Int)<(sws.length:Int))with
 |false=>
  have e:i=sws.length:=by have:=of_decide_eq_false R;omega
  have e0:ZaI nodes ks (sws.map swI)=0:=by rw[he,e,Xbm];rfl
  have em:ZaO swI ks sws i=ks++sws.map (·.1):=Zex e
  refine Zae ?_
  refine Zac ?_
  refine Zaf ?_
  refine brF R ?_
  refine .inl ⟨rfl,e0, ?_⟩
  rw[em]
  exact Zaq ⟨rfl,rfl,trivial⟩
 |true=>
  have I:i<sws.length:=by have:=of_decide_eq_true R;omega
  have C:sws[i]? =some sws[i]:=Xac I
  have gx:sws[(i:Int).toNat]? =some sws[i]:=by rw[Xad];exact C
  have hx:sws[i].1.length≤9223372036854775806:=hs _ (Xax I)
  obtain⟨x,ex⟩: ∃x,sws[i]=x:=⟨_,rfl⟩
  rw[ex]at gx C hx
  have hD:=Zgx [.cell j true, .set (ZaO swI ks sws i), .cell [.mp 1, .v (.l .s) nodes] true, .cell [.v .s x.1, .v .s x.2.1, .v .s x.2.2.1, .v .b x.2.2.2.1, .v .b x.2.2.2.2] true, .row .s [x.2.1,x.2.2.1] true] 1 4 nodes (ZaO swI ks sws i) x.1 [x.2.1,x.2.2.1] hx hn (Xal rfl) rfl rfl (by decide)
  refine Zae ?_
  refine Zac ?_
  refine Zaf ?_
  refine brT R ?_
  refine Zae ?_
  refine Zbb rfl (fun _=>rfl) (Xaj i) gx rfl rfl ?_
  refine Zac ?_
  refine ZbB ?_
  refine Zad rfl (ZaP rfl rfl rfl rfl rfl rfl rfl rfl ?_)
  refine ZaC rfl ?_
  refine Zaf ?_
  refine Zae ?_
  refine Zap rfl (fun _=>rfl) rfl rfl rfl ?_
  refine Zac ?_
  refine Zap rfl (fun _=>rfl) rfl rfl rfl ?_
  refine Zac ?_
  refine Zap rfl (fun _=>rfl) rfl rfl rfl ?_
  refine Zac ?_
  refine Zap rfl (fun _=>rfl) rfl rfl rfl ?_
  refine ZbB ?_
  refine Zad rfl ((hD.mono ?_))
  rintro _ hp' ⟨rfl,hX⟩
  refine Zaa rfl rfl ?_
  refine Zac ?_
  refine Zaf ?_
  cases U:decide (Zbl nodes (ZaO swI ks sws i) (swI x)=0)with
  |true=>
   have J:=of_decide_eq_true U
   have hc:(!decide (Zbl nodes (ZaO swI ks sws i) (ZeB x.1 [x.2.1,x.2.2.1])=0))=false:=by show(!decide (Zbl nodes (ZaO swI ks sws i) (swI x)=0))=false;rw[U];rfl
   refine Zae ?_
   iterate 2 refine Zac ?_
   refine Zaf ?_
   refine brF hc ?_
   refine Zae ?_
   iterate 2 refine Zac ?_
   refine Zaf ?_
   refine⟨i+1,⟨I,he.trans (ZeV C J)⟩,by show sws.length-(i+1)<sws.length-i;omega, ?_⟩
   obtain⟨ex,rfl⟩:=hX J
   have em: ∀A B:SM,[SM.cell j true, .set (ZaO swI ks sws i), .cell [.mp 1, .v (.l .s) nodes] true,A,B].set 1 (.set (ZaO swI ks sws i++ [x.1]))++ex=hB j nodes (ZaO swI ks sws (i+1))++(A::B::ex):=fun A B=>congrArg (fun z=>hB j nodes z++(A::B::ex)) (Zcp (f:=swI) C)
   rw[em]
   exact Zfs (Xao _) ⟨rfl,ZbG (by show 0<3;omega),rfl,ZbG (by show 2<3;omega),rfl,ZcA,rfl,ZcA,congrArg (fun x=>some (SV.v (.i .i64) x)) (Zca (by omega)),ZcA,trivial⟩ (ZrM hr)
  |false=>
   have J:=of_decide_eq_false U
   have hc:(!decide (Zbl nodes (ZaO swI ks sws i) (ZeB x.1 [x.2.1,x.2.2.1])=0))=true:=by show(!decide (Zbl nodes (ZaO swI ks sws i) (swI x)=0))=true;rw[U];rfl
   refine Zae ?_
   iterate 2 refine Zac ?_
   refine Zaf ?_
   refine brT hc ?_
   refine Zae ?_
   iterate 2 refine Zac ?_
   refine Zaf ?_
   refine ZaR ?_
   repeat (first|refine ZaF ?_|refine ZaG ?_|refine Zaz ?_)
   have e3:=he.trans (Zbo C J)
   exact .inr ⟨rfl,fun h=>J (e3.symm.trans h),Zbz ⟨congrArg (fun x=>some (SV.v (.i .i64) x)) e3.symm,rfl,trivial⟩⟩
theorem Zh3 {nodes ks:List Txt} {name:Txt} {ns:List Txt} {bad:Bool}:Zbl nodes ks (name,ns,decide (ns.length=2),bad)=Zcm (Zbl nodes ks (ZeB name ns)) (bif bad then 4 else 0):=by
 simp only[Zbl]
 generalize Zbu name=j
 generalize Zdg name ks=b2
 generalize(ns.all fun s=>Zdg s nodes)=C
 generalize(decide (ns.length=2)&&(ns.getD 0 []==ns.getD 1 []))=I
 cases j<;>cases b2<;>cases C<;>cases I<;>rfl
abbrev Zhx:CT:= .p .s (.p .s (.p .s (.p (.i .i64) (.p (.i .i64) (.p (.i .i64) (.p (.i .i64) (.p (.i .i64) (.i .i64))))))))
def vBr (brs:List Br) (i:Nat):TM:=[(1, .ptr 0 0 0),(3, .ptr 2 0 0),(87, .v (.l Zhx) brs),(88,nt brs.length),(89,nt i)]
theorem Zxw (j:List SV) (nodes ks:List Txt) (brs:List Br) (hr:rchL j=[]) (hn:nodes.length≤1000) (hl:brs.length≤1000) (hs: ∀x∈brs,x.1.length≤9223372036854775806):
 LoopOK Tryz.prog Zao 0 ⟨17,0,114⟩ (Za4 Tryz.f17 19) (vBr brs 0) (hB j nodes ks)
 (fun e tm hp'=>(e= .exit 4∧ZaI nodes ks (brs.map brI)=0∧Ent 0 tm hp' [(1, .ptr 0 0 0),(3, .ptr 2 0 0)] (hB j nodes (ks++brs.map (·.1))))∨(e= .ret∧ZaI nodes ks (brs.map brI)≠0∧Ent 0 tm hp' [(2, .v (.i .i64) (ZaI nodes ks (brs.map brI)))] [])):=by
 refine Zaw Zag rfl (vBr brs) (fun i=>hB j nodes (ZaO brI ks brs i)) (fun i=>i≤brs.length∧ZaI nodes ks (brs.map brI)=ZaI nodes (ZaO brI ks brs i) ((brs.drop i).map brI)) (fun i=>brs.length-i) ?_ 0 ⟨Xao _,by rw[ZaO,Xa5,Xa3,XaF,XaB]⟩ ?_
 case refine_2=>
  have e0:ZaO brI ks brs 0=ks:=by rw[ZaO,Xa5,Xa3,XaF]
  rw[e0];exact ZaJ
 rintro i ⟨hi,he⟩
 cases h1:decide ((i:Int)<(brs.length:Int))with
 |false=>
  have e:i=brs.length:=by have:=of_decide_eq_false h1;omega
  have e0:ZaI nodes ks (brs.map brI)=0:=by rw[he,e,Xbm];rfl
  have em:ZaO brI ks brs i=ks++brs.map (·.1):=Zex e
  refine Zae ?_
  refine Zac ?_
  refine Zaf ?_
  refine brF h1 ?_
  refine .inl ⟨rfl,e0, ?_⟩
  rw[em]
  exact Zaq ⟨rfl,rfl,trivial⟩
 |true=>
  have R:i<brs.length:=by have:=of_decide_eq_true h1;omega
  have I:brs[i]? =some brs[i]:=Xac R
  have gx:brs[(i:Int).toNat]? =some brs[i]:=by rw[Xad];exact I
  have hx:brs[i].1.length≤9223372036854775806:=hs _ (Xax R)
  obtain⟨x,ex⟩: ∃x,brs[i]=x:=⟨_,rfl⟩
  rw[ex]at gx I hx
  have hD:=Zgx [.cell j true, .set (ZaO brI ks brs i), .cell [.mp 1, .v (.l .s) nodes] true, .cell [.v .s x.1, .v .s x.2.1, .v .s x.2.2.1, .v (.i .i64) x.2.2.2.1, .v (.i .i64) x.2.2.2.2.1, .v (.i .i64) x.2.2.2.2.2.1, .v (.i .i64) x.2.2.2.2.2.2.1, .v (.i .i64) x.2.2.2.2.2.2.2.1, .v (.i .i64) x.2.2.2.2.2.2.2.2] true, .row .s [x.2.1,x.2.2.1] true] 1 4 nodes (ZaO brI ks brs i) x.1 [x.2.1,x.2.2.1] hx hn (Xal rfl) rfl rfl (by decide)
  refine Zae ?_
  refine Zac ?_
  refine Zaf ?_
  refine brT h1 ?_
  refine Zae ?_
  refine Zbb rfl (fun _=>rfl) (Xaj i) gx rfl rfl ?_
  refine Zac ?_
  refine ZbB ?_
  refine Zad rfl (ZaP rfl rfl rfl rfl rfl rfl rfl rfl ?_)
  refine ZaC rfl ?_
  refine Zaf ?_
  refine Zae ?_
  refine Zap rfl (fun _=>rfl) rfl rfl rfl ?_
  refine Zac ?_
  refine Zap rfl (fun _=>rfl) rfl rfl rfl ?_
  refine Zac ?_
  refine Zap rfl (fun _=>rfl) rfl rfl rfl ?_
  refine Zac ?_
  refine Zap rfl (fun _=>rfl) rfl rfl rfl ?_
  refine ZbB ?_
  refine Zad rfl ((hD.mono ?_))
  rintro _ hp' ⟨rfl,hX⟩
  refine Zaa rfl rfl ?_
  refine Zac ?_
  refine Zaf ?_
  have C:Zbl nodes (ZaO brI ks brs i) (brI x)=Zcm (Zbl nodes (ZaO brI ks brs i) (ZeB x.1 [x.2.1,x.2.2.1])) (bif ZhW x then 4 else 0):=Zh3
  cases U:decide (Zbl nodes (ZaO brI ks brs i) (ZeB x.1 [x.2.1,x.2.2.1])=0)with
  |true=>
   have e2:=of_decide_eq_true U
   have hc:(!decide (Zbl nodes (ZaO brI ks brs i) (ZeB x.1 [x.2.1,x.2.2.1])=0))=false:=by rw[U];rfl
   rw[Zcm,U]at C
   obtain⟨ex,rfl⟩:=hX e2
   have J:=Zvy x
   refine Zae ?_
   iterate 2 refine Zac ?_
   refine Zaf ?_
   refine brF hc ?_
   cases h3:ZhW x with
   |false=>
    rw[h3]at C J
    have C:Zbl nodes (ZaO brI ks brs i) (brI x)=0:=C
    refine Zae ?_
    refine Zap rfl (fun _=>rfl) rfl rfl rfl ?_
    refine Zad rfl ((J).mono ?_)
    rintro _ rfl
    refine Zaa rfl rfl ?_
    refine Zac ?_
    refine Zaf ?_
    refine Zae ?_
    iterate 2 refine Zac ?_
    refine Zaf ?_
    refine brF rfl ?_
    refine Zae ?_
    iterate 2 refine Zac ?_
    refine Zaf ?_
    refine⟨i+1,⟨R,he.trans (ZeV I C)⟩,by show brs.length-(i+1)<brs.length-i;omega, ?_⟩
    have em: ∀A B:SM,[SM.cell j true, .set (ZaO brI ks brs i), .cell [.mp 1, .v (.l .s) nodes] true,A,B].set 1 (.set (ZaO brI ks brs i++ [x.1]))++ex=hB j nodes (ZaO brI ks brs (i+1))++(A::B::ex):=fun A B=>congrArg (fun z=>hB j nodes z++(A::B::ex)) (Zcp (f:=brI) I)
    rw[em]
    exact Zfs (Xao _) ⟨rfl,ZbG (by show 0<3;omega),rfl,ZbG (by show 2<3;omega),rfl,ZcA,rfl,ZcA,congrArg (fun x=>some (SV.v (.i .i64) x)) (Zca (by omega)),ZcA,trivial⟩ (ZrM hr)
   |true=>
    rw[h3]at C J
    have C:Zbl nodes (ZaO brI ks brs i) (brI x)=4:=C
    have e3:=he.trans (Zbo I (by rw[C];decide))
    refine Zae ?_
    refine Zap rfl (fun _=>rfl) rfl rfl rfl ?_
    refine Zad rfl ((J).mono ?_)
    rintro _ rfl
    refine Zaa rfl rfl ?_
    refine Zac ?_
    refine Zaf ?_
    refine Zae ?_
    iterate 2 refine Zac ?_
    refine Zaf ?_
    refine brT rfl ?_
    refine Zae ?_
    iterate 2 refine Zac ?_
    refine Zaf ?_
    refine ZaR ?_
    repeat (first|refine ZaF ?_|refine ZaG ?_|refine Zaz ?_)
    exact .inr ⟨rfl,(fun h=>by rw[e3,C]at h;cases h),Zbz ⟨congrArg (fun x=>some (SV.v (.i .i64) x)) (e3.trans C).symm,rfl,trivial⟩⟩
  |false=>
   have e2:=of_decide_eq_false U
   have hc:(!decide (Zbl nodes (ZaO brI ks brs i) (ZeB x.1 [x.2.1,x.2.2.1])=0))=true:=by rw[U];rfl
   rw[Zcm,U]at C
   have C:Zbl nodes (ZaO brI ks brs i) (brI x)=Zbl nodes (ZaO brI ks brs i) (ZeB x.1 [x.2.1,x.2.2.1]):=C
   refine Zae ?_
   iterate 2 refine Zac ?_
   refine Zaf ?_
   refine brT hc ?_
   refine Zae ?_
   iterate 2 refine Zac ?_
   refine Zaf ?_
   refine ZaR ?_
   repeat (first|refine ZaF ?_|refine ZaG ?_|refine Zaz ?_)
   have e3:=(he.trans (Zbo I (by rw[C];exact e2))).trans C
   exact .inr ⟨rfl,fun h=>e2 (e3.symm.trans h),Zbz ⟨congrArg (fun x=>some (SV.v (.i .i64) x)) e3.symm,rfl,trivial⟩⟩
open Go.Am Go.Tx Ne
def hE (j:List SV) (nodes ks:List Txt):List SM:=[.cell j true, .set ks, .cell [.mp 1, .v (.l .s) nodes] true, .cell [.mp 1, .v (.l .s) nodes] true, .cell j true]
theorem ZsB {j:List SV} {nodes ks:List Txt} (C:rchL j=[]): ∀m∈hE j nodes ks,∀id∈ZiL m,id<5:=by
 intro m hm id hid
 simp only[hE,Xav,XaU,or_false]at hm
 rcases hm with rfl|rfl|rfl|rfl|rfl
 ·rw[ZiL,C]at hid;exact absurd hid XaU
 ·exact absurd hid XaU
 ·have h:id=1:=by simpa[ZiL,rchL,Zdt]using hid
  omega
 ·have h:id=1:=by simpa[ZiL,rchL,Zdt]using hid
  omega
 ·rw[ZiL,C]at hid;exact absurd hid XaU
def vGe (l:List Ge) (i:Nat):TM:=[(2, .ptr 3 0 0),(3, .ptr 4 0 0),(15, .v (.l (.p .s (.p .s (.p (.i .i64) (.p (.i .i64) (.i .i64)))))) l),(16,nt l.length),(17,nt i)]
theorem ZwI (j:List SV) (nodes ks:List Txt) (l:List Ge) (hr:rchL j=[]) (hn:nodes.length≤1000) (hl:l.length≤1000) (hs: ∀x∈l,x.1.length≤9223372036854775806) (base:Nat):
 LoopOK Tryz.prog Zao 3 ⟨37,base,105⟩ (Za4 Tryz.f37 2) (vGe l 0) (hE j nodes ks)
 (fun e tm hp'=>(e= .exit 0∧ZaI nodes ks (l.map geI)=0∧Ent 3 tm hp' [(2, .ptr 3 0 0),(3, .ptr 4 0 0)] (hE j nodes (ks++l.map (·.1))))∨(e= .ret∧ZaI nodes ks (l.map geI)≠0∧ ∃aa,Ent 3 tm hp' [(4, .v (.i .i64) (ZaI nodes ks (l.map geI)))] aa)):=by
 refine Zaw Zag rfl (vGe l) (fun i=>hE j nodes (ZaO geI ks l i)) (fun i=>i≤l.length∧ZaI nodes ks (l.map geI)=ZaI nodes (ZaO geI ks l i) ((l.drop i).map geI)) (fun i=>l.length-i) ?_ 0 ⟨Xao _,by rw[ZaO,Xa5,Xa3,XaF,XaB]⟩ ?_
 case refine_2=>
  have e0:ZaO geI ks l 0=ks:=by rw[ZaO,Xa5,Xa3,XaF]
  rw[e0];exact ZaJ
 rintro i ⟨hi,he⟩
 cases h1:decide ((i:Int)<(l.length:Int))with
 |false=>
  have e:i=l.length:=by have:=of_decide_eq_false h1;omega
  have e0:ZaI nodes ks (l.map geI)=0:=by rw[he,e,Xbm];rfl
  have em:ZaO geI ks l i=ks++l.map (·.1):=Zex e
  refine Zae ?_
  refine Zac ?_
  refine Zaf ?_
  refine brF h1 ?_
  refine .inl ⟨rfl,e0, ?_⟩
  rw[em]
  exact Zaq ⟨rfl,rfl,trivial⟩
 |true=>
  have R:i<l.length:=by have:=of_decide_eq_true h1;omega
  have I:l[i]? =some l[i]:=Xac R
  have gx:l[(i:Int).toNat]? =some l[i]:=by rw[Xad];exact I
  have hx:l[i].1.length≤9223372036854775806:=hs _ (Xax R)
  obtain⟨x,ex⟩: ∃x,l[i]=x:=⟨_,rfl⟩
  rw[ex]at gx I hx
  have hD:=Zgx [.cell j true, .set (ZaO geI ks l i), .cell [.mp 1, .v (.l .s) nodes] true, .cell [.mp 1, .v (.l .s) nodes] true, .cell j true, .cell [.v .s x.1, .v .s x.2.1, .v (.i .i64) x.2.2.1, .v (.i .i64) x.2.2.2.1, .v (.i .i64) x.2.2.2.2] true, .row .s [x.2.1] true] 1 6 nodes (ZaO geI ks l i) x.1 [x.2.1] hx hn (Xal rfl) rfl rfl (by decide)
  have C:Zbl nodes (ZaO geI ks l i) (geI x)=Zcm (Zbl nodes (ZaO geI ks l i) (ZeB x.1 [x.2.1])) (bif !(inR x.2.2.1 0 100000)|| !(inR x.2.2.2.1 x.2.2.1 100000)|| !(inR x.2.2.2.2 0 100000)then 4 else 0):=Zh3
  refine Zae ?_
  refine Zac ?_
  refine Zaf ?_
  refine brT h1 ?_
  refine Zae ?_
  refine Zbb rfl (fun _=>rfl) (Xaj i) gx rfl rfl ?_
  refine Zac ?_
  refine ZbB ?_
  refine Zad rfl (ZaP rfl rfl rfl rfl rfl rfl rfl rfl ?_)
  refine ZaC rfl ?_
  refine Zaf ?_
  refine Zae ?_
  refine Zap rfl (fun _=>rfl) rfl rfl rfl ?_
  refine Zac ?_
  refine Zap rfl (fun _=>rfl) rfl rfl rfl ?_
  refine Zac ?_
  refine Zap rfl (fun _=>rfl) rfl rfl rfl ?_
  refine ZbB ?_
  refine Zad rfl ((hD.mono ?_))
  rintro _ hp' ⟨rfl,hX⟩
  refine Zaa rfl rfl ?_
  refine Zac ?_
  refine Zaf ?_
  cases U:decide (Zbl nodes (ZaO geI ks l i) (ZeB x.1 [x.2.1])=0)with
  |true=>
   have e2:=of_decide_eq_true U
   have hc:(!decide (Zbl nodes (ZaO geI ks l i) (ZeB x.1 [x.2.1])=0))=false:=by rw[U];rfl
   rw[Zcm,U]at C
   obtain⟨ex,rfl⟩:=hX e2
   have p1:=Zcv x.2.2.1
   have p2:=ZlM x.2.2.2.1 x.2.2.1 100000
   have p3:=Zcv x.2.2.2.2
   refine Zae ?_
   iterate 2 refine Zac ?_
   refine Zaf ?_
   refine brF hc ?_
   cases c1:inR x.2.2.1 0 100000 with
   |false=>
    rw[c1]at C p1
    have C:Zbl nodes (ZaO geI ks l i) (geI x)=4:=C
    have J:=he.trans (Zbo I (by rw[C];decide))
    refine Zae ?_
    refine Zac ?_
    refine Zap rfl (fun _=>rfl) rfl rfl rfl ?_
    refine Zad rfl ((p1).mono ?_)
    rintro _ rfl
    refine Zaa rfl rfl ?_
    iterate 2 refine Zac ?_
    refine Zah rfl ?_
    refine Zah rfl ?_
    refine Zah rfl ?_
    refine Zah rfl ?_
    refine Zah rfl ?_
    refine Zat rfl ?_
    refine Zac ?_
    refine Zah rfl ?_
    refine Zah rfl ?_
    refine Zah rfl ?_
    refine Zah rfl ?_
    refine Zat rfl ?_
    refine Zaf ?_
    refine brT rfl ?_
    refine Zae ?_
    refine Zac ?_
    refine Zaf ?_
    refine ZaR ?_
    repeat (first|refine ZaF ?_|refine ZaG ?_|refine Zaz ?_)
    exact .inr ⟨rfl,(fun h=>by rw[J,C]at h;cases h),_,Zaq ⟨congrArg (fun x=>some (SV.v (.i .i64) x)) (J.trans C).symm,trivial⟩⟩
   |true=>
    rw[c1]at C p1
    cases c2:inR x.2.2.2.1 x.2.2.1 100000 with
    |false=>
     rw[c2]at C p2
     have C:Zbl nodes (ZaO geI ks l i) (geI x)=4:=C
     have J:=he.trans (Zbo I (by rw[C];decide))
     refine Zae ?_
     refine Zac ?_
     refine Zap rfl (fun _=>rfl) rfl rfl rfl ?_
     refine Zad rfl ((p1).mono ?_)
     rintro _ rfl
     refine Zaa rfl rfl ?_
     iterate 2 refine Zac ?_
     refine Zab rfl ?_
     refine Zaj rfl rfl rfl rfl (fun _=>rfl) rfl rfl rfl ?_
     refine Zab rfl ?_
     refine Zaj rfl rfl rfl rfl (fun _=>rfl) rfl rfl rfl ?_
     refine Zam rfl rfl rfl rfl ((p2).mono ?_)
     rintro _ rfl
     refine Zaa rfl rfl ?_
     refine Zal rfl ?_
     refine Zac ?_
     refine Zah rfl ?_
     refine Zah rfl ?_
     refine Zah rfl ?_
     refine Zah rfl ?_
     refine Zat rfl ?_
     refine Zaf ?_
     refine brT rfl ?_
     refine Zae ?_
     refine Zac ?_
     refine Zaf ?_
     refine ZaR ?_
     repeat (first|refine ZaF ?_|refine ZaG ?_|refine Zaz ?_)
     exact .inr ⟨rfl,(fun h=>by rw[J,C]at h;cases h),_,Zaq ⟨congrArg (fun x=>some (SV.v (.i .i64) x)) (J.trans C).symm,trivial⟩⟩
    |true=>
     rw[c2]at C p2
     cases c3:inR x.2.2.2.2 0 100000 with
     |false=>
      rw[c3]at C p3
      have C:Zbl nodes (ZaO geI ks l i) (geI x)=4:=C
      have J:=he.trans (Zbo I (by rw[C];decide))
      refine Zae ?_
      refine Zac ?_
      refine Zap rfl (fun _=>rfl) rfl rfl rfl ?_
      refine Zad rfl ((p1).mono ?_)
      rintro _ rfl
      refine Zaa rfl rfl ?_
      iterate 2 refine Zac ?_
      refine Zab rfl ?_
      refine Zaj rfl rfl rfl rfl (fun _=>rfl) rfl rfl rfl ?_
      refine Zab rfl ?_
      refine Zaj rfl rfl rfl rfl (fun _=>rfl) rfl rfl rfl ?_
      refine Zam rfl rfl rfl rfl ((p2).mono ?_)
      rintro _ rfl
      refine Zaa rfl rfl ?_
      refine Zal rfl ?_
      refine Zac ?_
      refine Zab rfl ?_
      refine Zaj rfl rfl rfl rfl (fun _=>rfl) rfl rfl rfl ?_
      refine Zam rfl rfl rfl rfl ((p3).mono ?_)
      rintro _ rfl
      refine Zaa rfl rfl ?_
      refine Zab rfl ?_
      refine Zal rfl ?_
      refine Zaf ?_
      refine brT rfl ?_
      refine Zae ?_
      refine Zac ?_
      refine Zaf ?_
      refine ZaR ?_
      repeat (first|refine ZaF ?_|refine ZaG ?_|refine Zaz ?_)
      exact .inr ⟨rfl,(fun h=>by rw[J,C]at h;cases h),_,Zaq ⟨congrArg (fun x=>some (SV.v (.i .i64) x)) (J.trans C).symm,trivial⟩⟩
     |true=>
      rw[c3]at C p3
      have C:Zbl nodes (ZaO geI ks l i) (geI x)=0:=C
      refine Zae ?_
      refine Zac ?_
      refine Zap rfl (fun _=>rfl) rfl rfl rfl ?_
      refine Zad rfl ((p1).mono ?_)
      rintro _ rfl
      refine Zaa rfl rfl ?_
      iterate 2 refine Zac ?_
      refine Zab rfl ?_
      refine Zaj rfl rfl rfl rfl (fun _=>rfl) rfl rfl rfl ?_
      refine Zab rfl ?_
      refine Zaj rfl rfl rfl rfl (fun _=>rfl) rfl rfl rfl ?_
      refine Zam rfl rfl rfl rfl ((p2).mono ?_)
      rintro _ rfl
      refine Zaa rfl rfl ?_
      refine Zal rfl ?_
      refine Zac ?_
      refine Zab rfl ?_
      refine Zaj rfl rfl rfl rfl (fun _=>rfl) rfl rfl rfl ?_
      refine Zam rfl rfl rfl rfl ((p3).mono ?_)
      rintro _ rfl
      refine Zaa rfl rfl ?_
      refine Zab rfl ?_
      refine Zal rfl ?_
      refine Zaf ?_
      refine brF rfl ?_
      refine Zae ?_
      iterate 2 refine Zac ?_
      refine Zaf ?_
      refine⟨i+1,⟨R,he.trans (ZeV I C)⟩,by show l.length-(i+1)<l.length-i;omega, ?_⟩
      have em: ∀A B:SM,[SM.cell j true, .set (ZaO geI ks l i), .cell [.mp 1, .v (.l .s) nodes] true, .cell [.mp 1, .v (.l .s) nodes] true, .cell j true,A,B].set 1 (.set (ZaO geI ks l i++ [x.1]))++ex=hE j nodes (ZaO geI ks l (i+1))++(A::B::ex):=fun A B=>congrArg (fun z=>hE j nodes z++(A::B::ex)) (Zcp (f:=geI) I)
      rw[em]
      exact Zfs (hp0:=hE j nodes (ZaO geI ks l (i+1))) (Xal rfl) ⟨rfl,ZbG (by show 3<5;omega),rfl,ZbG (by show 4<5;omega),rfl,ZcA,rfl,ZcA,congrArg (fun x=>some (SV.v (.i .i64) x)) (Zca (by omega)),ZcA,trivial⟩ (ZsB hr)
  |false=>
   have e2:=of_decide_eq_false U
   have hc:(!decide (Zbl nodes (ZaO geI ks l i) (ZeB x.1 [x.2.1])=0))=true:=by rw[U];rfl
   rw[Zcm,U]at C
   have C:Zbl nodes (ZaO geI ks l i) (geI x)=Zbl nodes (ZaO geI ks l i) (ZeB x.1 [x.2.1]):=C
   refine Zae ?_
   iterate 2 refine Zac ?_
   refine Zaf ?_
   refine brT hc ?_
   refine Zae ?_
   iterate 2 refine Zac ?_
   refine Zaf ?_
   refine ZaR ?_
   repeat (first|refine ZaF ?_|refine ZaG ?_|refine Zaz ?_)
   have J:=(he.trans (Zbo I (by rw[C];exact e2))).trans C
   exact .inr ⟨rfl,fun h=>e2 (J.symm.trans h),_,Zaq ⟨congrArg (fun x=>some (SV.v (.i .i64) x)) J.symm,trivial⟩⟩
def vLo (l:List Lo) (i:Nat):TM:=[(2, .ptr 3 0 0),(3, .ptr 4 0 0),(50, .v (.l (.p .s (.p .s (.i .i64)))) l),(51,nt l.length),(52,nt i)]
theorem Zxn (j:List SV) (nodes ks:List Txt) (l:List Lo) (hr:rchL j=[]) (hn:nodes.length≤1000) (hl:l.length≤1000) (hs: ∀x∈l,x.1.length≤9223372036854775806) (base:Nat):
 LoopOK Tryz.prog Zao 3 ⟨37,base,105⟩ (Za4 Tryz.f37 11) (vLo l 0) (hE j nodes ks)
 (fun e tm hp'=>(e= .exit 2∧ZaI nodes ks (l.map loI)=0∧Ent 3 tm hp' [(2, .ptr 3 0 0),(3, .ptr 4 0 0)] (hE j nodes (ks++l.map (·.1))))∨(e= .ret∧ZaI nodes ks (l.map loI)≠0∧ ∃U,Ent 3 tm hp' [(4, .v (.i .i64) (ZaI nodes ks (l.map loI)))] U)):=by
 refine Zaw Zag rfl (vLo l) (fun i=>hE j nodes (ZaO loI ks l i)) (fun i=>i≤l.length∧ZaI nodes ks (l.map loI)=ZaI nodes (ZaO loI ks l i) ((l.drop i).map loI)) (fun i=>l.length-i) ?_ 0 ⟨Xao _,by rw[ZaO,Xa5,Xa3,XaF,XaB]⟩ ?_
 case refine_2=>
  have e0:ZaO loI ks l 0=ks:=by rw[ZaO,Xa5,Xa3,XaF]
  rw[e0];exact ZaJ
 rintro i ⟨hi,he⟩
 cases h1:decide ((i:Int)<(l.length:Int))with
 |false=>
  have e:i=l.length:=by have:=of_decide_eq_false h1;omega
  have e0:ZaI nodes ks (l.map loI)=0:=by rw[he,e,Xbm];rfl
  have em:ZaO loI ks l i=ks++l.map (·.1):=Zex e
  refine Zae ?_
  refine Zac ?_
  refine Zaf ?_
  refine brF h1 ?_
  refine .inl ⟨rfl,e0, ?_⟩
  rw[em]
  exact Zaq ⟨rfl,rfl,trivial⟩
 |true=>
  have J:i<l.length:=by have:=of_decide_eq_true h1;omega
  have I:l[i]? =some l[i]:=Xac J
  have gx:l[(i:Int).toNat]? =some l[i]:=by rw[Xad];exact I
  have hx:l[i].1.length≤9223372036854775806:=hs _ (Xax J)
  obtain⟨x,ex⟩: ∃x,l[i]=x:=⟨_,rfl⟩
  rw[ex]at gx I hx
  have hD:=Zgx [.cell j true, .set (ZaO loI ks l i), .cell [.mp 1, .v (.l .s) nodes] true, .cell [.mp 1, .v (.l .s) nodes] true, .cell j true, .cell [.v .s x.1, .v .s x.2.1, .v (.i .i64) x.2.2] true, .row .s [x.2.1] true] 1 6 nodes (ZaO loI ks l i) x.1 [x.2.1] hx hn (Xal rfl) rfl rfl (by decide)
  have C:Zbl nodes (ZaO loI ks l i) (loI x)=Zcm (Zbl nodes (ZaO loI ks l i) (ZeB x.1 [x.2.1])) (bif !(inR x.2.2 0 100000)then 4 else 0):=Zh3
  refine Zae ?_
  refine Zac ?_
  refine Zaf ?_
  refine brT h1 ?_
  refine Zae ?_
  refine Zbb rfl (fun _=>rfl) (Xaj i) gx rfl rfl ?_
  refine Zac ?_
  refine ZbB ?_
  refine Zad rfl (ZaP rfl rfl rfl rfl rfl rfl rfl rfl ?_)
  refine ZaC rfl ?_
  refine Zaf ?_
  refine Zae ?_
  refine Zap rfl (fun _=>rfl) rfl rfl rfl ?_
  refine Zac ?_
  refine Zap rfl (fun _=>rfl) rfl rfl rfl ?_
  refine Zac ?_
  refine Zap rfl (fun _=>rfl) rfl rfl rfl ?_
  refine ZbB ?_
  refine Zad rfl ((hD.mono ?_))
  rintro _ hp' ⟨rfl,hX⟩
  refine Zaa rfl rfl ?_
  refine Zac ?_
  refine Zaf ?_
  cases R:decide (Zbl nodes (ZaO loI ks l i) (ZeB x.1 [x.2.1])=0)with
  |true=>
   have e2:=of_decide_eq_true R
   have hc:(!decide (Zbl nodes (ZaO loI ks l i) (ZeB x.1 [x.2.1])=0))=false:=by rw[R];rfl
   rw[Zcm,R]at C
   obtain⟨ex,rfl⟩:=hX e2
   have p1:=Zcv x.2.2
   refine Zae ?_
   iterate 2 refine Zac ?_
   refine Zaf ?_
   refine brF hc ?_
   cases c1:inR x.2.2 0 100000 with
   |false=>
    rw[c1]at C p1
    have C:Zbl nodes (ZaO loI ks l i) (loI x)=4:=C
    have e3:=he.trans (Zbo I (by rw[C];decide))
    refine Zae ?_
    refine Zac ?_
    refine Zap rfl (fun _=>rfl) rfl rfl rfl ?_
    refine Zad rfl ((p1).mono ?_)
    rintro _ rfl
    refine Zaa rfl rfl ?_
    refine Zac ?_
    refine Zaf ?_
    refine brT rfl ?_
    refine Zae ?_
    refine Zac ?_
    refine Zaf ?_
    refine ZaR ?_
    repeat (first|refine ZaF ?_|refine ZaG ?_|refine Zaz ?_)
    exact .inr ⟨rfl,(fun h=>by rw[e3,C]at h;cases h),_,Zaq ⟨congrArg (fun x=>some (SV.v (.i .i64) x)) (e3.trans C).symm,trivial⟩⟩
   |true=>
    rw[c1]at C p1
    have C:Zbl nodes (ZaO loI ks l i) (loI x)=0:=C
    refine Zae ?_
    refine Zac ?_
    refine Zap rfl (fun _=>rfl) rfl rfl rfl ?_
    refine Zad rfl ((p1).mono ?_)
    rintro _ rfl
    refine Zaa rfl rfl ?_
    refine Zac ?_
    refine Zaf ?_
    refine brF rfl ?_
    refine Zae ?_
    iterate 2 refine Zac ?_
    refine Zaf ?_
    refine⟨i+1,⟨J,he.trans (ZeV I C)⟩,by show l.length-(i+1)<l.length-i;omega, ?_⟩
    have em: ∀A B:SM,[SM.cell j true, .set (ZaO loI ks l i), .cell [.mp 1, .v (.l .s) nodes] true, .cell [.mp 1, .v (.l .s) nodes] true, .cell j true,A,B].set 1 (.set (ZaO loI ks l i++ [x.1]))++ex=hE j nodes (ZaO loI ks l (i+1))++(A::B::ex):=fun A B=>congrArg (fun z=>hE j nodes z++(A::B::ex)) (Zcp (f:=loI) I)
    rw[em]
    exact Zfs (hp0:=hE j nodes (ZaO loI ks l (i+1))) (Xal rfl) ⟨rfl,ZbG (by show 3<5;omega),rfl,ZbG (by show 4<5;omega),rfl,ZcA,rfl,ZcA,congrArg (fun x=>some (SV.v (.i .i64) x)) (Zca (by omega)),ZcA,trivial⟩ (ZsB hr)
  |false=>
   have e2:=of_decide_eq_false R
   have hc:(!decide (Zbl nodes (ZaO loI ks l i) (ZeB x.1 [x.2.1])=0))=true:=by rw[R];rfl
   rw[Zcm,R]at C
   have C:Zbl nodes (ZaO loI ks l i) (loI x)=Zbl nodes (ZaO loI ks l i) (ZeB x.1 [x.2.1]):=C
   refine Zae ?_
   iterate 2 refine Zac ?_
   refine Zaf ?_
   refine brT hc ?_
   refine Zae ?_
   iterate 2 refine Zac ?_
   refine Zaf ?_
   refine ZaR ?_
   repeat (first|refine ZaF ?_|refine ZaG ?_|refine Zaz ?_)
   have e3:=(he.trans (Zbo I (by rw[C];exact e2))).trans C
   exact .inr ⟨rfl,fun h=>e2 (e3.symm.trans h),_,Zaq ⟨congrArg (fun x=>some (SV.v (.i .i64) x)) e3.symm,trivial⟩⟩
def vSt (l:List Sto) (i:Nat):TM:=[(2, .ptr 3 0 0),(3, .ptr 4 0 0),(72, .v (.l (.p .s (.p .s (.p (.i .i64) (.p (.i .i64) (.i .i64)))))) l),(73,nt l.length),(74,nt i)]
theorem Zx0 (j:List SV) (nodes ks:List Txt) (l:List Sto) (hr:rchL j=[]) (hn:nodes.length≤1000) (hl:l.length≤1000) (hs: ∀x∈l,x.1.length≤9223372036854775806) (base:Nat):
 LoopOK Tryz.prog Zao 3 ⟨37,base,105⟩ (Za4 Tryz.f37 20) (vSt l 0) (hE j nodes ks)
 (fun e tm hp'=>(e= .exit 4∧ZaI nodes ks (l.map stI)=0∧Ent 3 tm hp' [(2, .ptr 3 0 0),(3, .ptr 4 0 0)] (hE j nodes (ks++l.map (·.1))))∨(e= .ret∧ZaI nodes ks (l.map stI)≠0∧ ∃aa,Ent 3 tm hp' [(4, .v (.i .i64) (ZaI nodes ks (l.map stI)))] aa)):=by
 refine Zaw Zag rfl (vSt l) (fun i=>hE j nodes (ZaO stI ks l i)) (fun i=>i≤l.length∧ZaI nodes ks (l.map stI)=ZaI nodes (ZaO stI ks l i) ((l.drop i).map stI)) (fun i=>l.length-i) ?_ 0 ⟨Xao _,by rw[ZaO,Xa5,Xa3,XaF,XaB]⟩ ?_
 case refine_2=>
  have e0:ZaO stI ks l 0=ks:=by rw[ZaO,Xa5,Xa3,XaF]
  rw[e0];exact ZaJ
 rintro i ⟨hi,he⟩
 cases h1:decide ((i:Int)<(l.length:Int))with
 |false=>
  have e:i=l.length:=by have:=of_decide_eq_false h1;omega
  have e0:ZaI nodes ks (l.map stI)=0:=by rw[he,e,Xbm];rfl
  have em:ZaO stI ks l i=ks++l.map (·.1):=Zex e
  refine Zae ?_
  refine Zac ?_
  refine Zaf ?_
  refine brF h1 ?_
  refine .inl ⟨rfl,e0, ?_⟩
  rw[em]
  exact Zaq ⟨rfl,rfl,trivial⟩
 |true=>
  have R:i<l.length:=by have:=of_decide_eq_true h1;omega
  have I:l[i]? =some l[i]:=Xac R
  have gx:l[(i:Int).toNat]? =some l[i]:=by rw[Xad];exact I
  have hx:l[i].1.length≤9223372036854775806:=hs _ (Xax R)
  obtain⟨x,ex⟩: ∃x,l[i]=x:=⟨_,rfl⟩
  rw[ex]at gx I hx
  have hD:=Zgx [.cell j true, .set (ZaO stI ks l i), .cell [.mp 1, .v (.l .s) nodes] true, .cell [.mp 1, .v (.l .s) nodes] true, .cell j true, .cell [.v .s x.1, .v .s x.2.1, .v (.i .i64) x.2.2.1, .v (.i .i64) x.2.2.2.1, .v (.i .i64) x.2.2.2.2] true, .row .s [x.2.1] true] 1 6 nodes (ZaO stI ks l i) x.1 [x.2.1] hx hn (Xal rfl) rfl rfl (by decide)
  have C:Zbl nodes (ZaO stI ks l i) (stI x)=Zcm (Zbl nodes (ZaO stI ks l i) (ZeB x.1 [x.2.1])) (bif !(inR x.2.2.1 0 100000)|| !(inR x.2.2.2.1 0 100000)|| !(inR x.2.2.2.2 0 100000)then 4 else 0):=Zh3
  refine Zae ?_
  refine Zac ?_
  refine Zaf ?_
  refine brT h1 ?_
  refine Zae ?_
  refine Zbb rfl (fun _=>rfl) (Xaj i) gx rfl rfl ?_
  refine Zac ?_
  refine ZbB ?_
  refine Zad rfl (ZaP rfl rfl rfl rfl rfl rfl rfl rfl ?_)
  refine ZaC rfl ?_
  refine Zaf ?_
  refine Zae ?_
  refine Zap rfl (fun _=>rfl) rfl rfl rfl ?_
  refine Zac ?_
  refine Zap rfl (fun _=>rfl) rfl rfl rfl ?_
  refine Zac ?_
  refine Zap rfl (fun _=>rfl) rfl rfl rfl ?_
  refine ZbB ?_
  refine Zad rfl ((hD.mono ?_))
  rintro _ hp' ⟨rfl,hX⟩
  refine Zaa rfl rfl ?_
  refine Zac ?_
  refine Zaf ?_
  cases U:decide (Zbl nodes (ZaO stI ks l i) (ZeB x.1 [x.2.1])=0)with
  |true=>
   have e2:=of_decide_eq_true U
   have hc:(!decide (Zbl nodes (ZaO stI ks l i) (ZeB x.1 [x.2.1])=0))=false:=by rw[U];rfl
   rw[Zcm,U]at C
   obtain⟨ex,rfl⟩:=hX e2
   have p1:=Zcv x.2.2.1
   have p2:=Zcv x.2.2.2.1
   have p3:=Zcv x.2.2.2.2
   refine Zae ?_
   iterate 2 refine Zac ?_
   refine Zaf ?_
   refine brF hc ?_
   cases c1:inR x.2.2.1 0 100000 with
   |false=>
    rw[c1]at C p1
    have C:Zbl nodes (ZaO stI ks l i) (stI x)=4:=C
    have J:=he.trans (Zbo I (by rw[C];decide))
    refine Zae ?_
    refine Zac ?_
    refine Zap rfl (fun _=>rfl) rfl rfl rfl ?_
    refine Zad rfl ((p1).mono ?_)
    rintro _ rfl
    refine Zaa rfl rfl ?_
    iterate 2 refine Zac ?_
    refine Zah rfl ?_
    refine Zah rfl ?_
    refine Zah rfl ?_
    refine Zah rfl ?_
    refine Zat rfl ?_
    refine Zac ?_
    refine Zah rfl ?_
    refine Zah rfl ?_
    refine Zah rfl ?_
    refine Zah rfl ?_
    refine Zat rfl ?_
    refine Zaf ?_
    refine brT rfl ?_
    refine Zae ?_
    refine Zac ?_
    refine Zaf ?_
    refine ZaR ?_
    repeat (first|refine ZaF ?_|refine ZaG ?_|refine Zaz ?_)
    exact .inr ⟨rfl,(fun h=>by rw[J,C]at h;cases h),_,Zaq ⟨congrArg (fun x=>some (SV.v (.i .i64) x)) (J.trans C).symm,trivial⟩⟩
   |true=>
    rw[c1]at C p1
    cases c2:inR x.2.2.2.1 0 100000 with
    |false=>
     rw[c2]at C p2
     have C:Zbl nodes (ZaO stI ks l i) (stI x)=4:=C
     have J:=he.trans (Zbo I (by rw[C];decide))
     refine Zae ?_
     refine Zac ?_
     refine Zap rfl (fun _=>rfl) rfl rfl rfl ?_
     refine Zad rfl ((p1).mono ?_)
     rintro _ rfl
     refine Zaa rfl rfl ?_
     iterate 2 refine Zac ?_
     refine Zab rfl ?_
     refine Zaj rfl rfl rfl rfl (fun _=>rfl) rfl rfl rfl ?_
     refine Zam rfl rfl rfl rfl ((p2).mono ?_)
     rintro _ rfl
     refine Zaa rfl rfl ?_
     refine Zab rfl ?_
     refine Zal rfl ?_
     refine Zac ?_
     refine Zah rfl ?_
     refine Zah rfl ?_
     refine Zah rfl ?_
     refine Zah rfl ?_
     refine Zat rfl ?_
     refine Zaf ?_
     refine brT rfl ?_
     refine Zae ?_
     refine Zac ?_
     refine Zaf ?_
     refine ZaR ?_
     repeat (first|refine ZaF ?_|refine ZaG ?_|refine Zaz ?_)
     exact .inr ⟨rfl,(fun h=>by rw[J,C]at h;cases h),_,Zaq ⟨congrArg (fun x=>some (SV.v (.i .i64) x)) (J.trans C).symm,trivial⟩⟩
    |true=>
     rw[c2]at C p2
     cases c3:inR x.2.2.2.2 0 100000 with
     |false=>
      rw[c3]at C p3
      have C:Zbl nodes (ZaO stI ks l i) (stI x)=4:=C
      have J:=he.trans (Zbo I (by rw[C];decide))
      refine Zae ?_
      refine Zac ?_
      refine Zap rfl (fun _=>rfl) rfl rfl rfl ?_
      refine Zad rfl ((p1).mono ?_)
      rintro _ rfl
      refine Zaa rfl rfl ?_
      iterate 2 refine Zac ?_
      refine Zab rfl ?_
      refine Zaj rfl rfl rfl rfl (fun _=>rfl) rfl rfl rfl ?_
      refine Zam rfl rfl rfl rfl ((p2).mono ?_)
      rintro _ rfl
      refine Zaa rfl rfl ?_
      refine Zab rfl ?_
      refine Zal rfl ?_
      refine Zac ?_
      refine Zab rfl ?_
      refine Zaj rfl rfl rfl rfl (fun _=>rfl) rfl rfl rfl ?_
      refine Zam rfl rfl rfl rfl ((p3).mono ?_)
      rintro _ rfl
      refine Zaa rfl rfl ?_
      refine Zab rfl ?_
      refine Zal rfl ?_
      refine Zaf ?_
      refine brT rfl ?_
      refine Zae ?_
      refine Zac ?_
      refine Zaf ?_
      refine ZaR ?_
      repeat (first|refine ZaF ?_|refine ZaG ?_|refine Zaz ?_)
      exact .inr ⟨rfl,(fun h=>by rw[J,C]at h;cases h),_,Zaq ⟨congrArg (fun x=>some (SV.v (.i .i64) x)) (J.trans C).symm,trivial⟩⟩
     |true=>
      rw[c3]at C p3
      have C:Zbl nodes (ZaO stI ks l i) (stI x)=0:=C
      refine Zae ?_
      refine Zac ?_
      refine Zap rfl (fun _=>rfl) rfl rfl rfl ?_
      refine Zad rfl ((p1).mono ?_)
      rintro _ rfl
      refine Zaa rfl rfl ?_
      iterate 2 refine Zac ?_
      refine Zab rfl ?_
      refine Zaj rfl rfl rfl rfl (fun _=>rfl) rfl rfl rfl ?_
      refine Zam rfl rfl rfl rfl ((p2).mono ?_)
      rintro _ rfl
      refine Zaa rfl rfl ?_
      refine Zab rfl ?_
      refine Zal rfl ?_
      refine Zac ?_
      refine Zab rfl ?_
      refine Zaj rfl rfl rfl rfl (fun _=>rfl) rfl rfl rfl ?_
      refine Zam rfl rfl rfl rfl ((p3).mono ?_)
      rintro _ rfl
      refine Zaa rfl rfl ?_
      refine Zab rfl ?_
      refine Zal rfl ?_
      refine Zaf ?_
      refine brF rfl ?_
      refine Zae ?_
      iterate 2 refine Zac ?_
      refine Zaf ?_
      refine⟨i+1,⟨R,he.trans (ZeV I C)⟩,by show l.length-(i+1)<l.length-i;omega, ?_⟩
      have em: ∀A B:SM,[SM.cell j true, .set (ZaO stI ks l i), .cell [.mp 1, .v (.l .s) nodes] true, .cell [.mp 1, .v (.l .s) nodes] true, .cell j true,A,B].set 1 (.set (ZaO stI ks l i++ [x.1]))++ex=hE j nodes (ZaO stI ks l (i+1))++(A::B::ex):=fun A B=>congrArg (fun z=>hE j nodes z++(A::B::ex)) (Zcp (f:=stI) I)
      rw[em]
      exact Zfs (hp0:=hE j nodes (ZaO stI ks l (i+1))) (Xal rfl) ⟨rfl,ZbG (by show 3<5;omega),rfl,ZbG (by show 4<5;omega),rfl,ZcA,rfl,ZcA,congrArg (fun x=>some (SV.v (.i .i64) x)) (Zca (by omega)),ZcA,trivial⟩ (ZsB hr)
  |false=>
   have e2:=of_decide_eq_false U
   have hc:(!decide (Zbl nodes (ZaO stI ks l i) (ZeB x.1 [x.2.1])=0))=true:=by rw[U];rfl
   rw[Zcm,U]at C
   have C:Zbl nodes (ZaO stI ks l i) (stI x)=Zbl nodes (ZaO stI ks l i) (ZeB x.1 [x.2.1]):=C
   refine Zae ?_
   iterate 2 refine Zac ?_
   refine Zaf ?_
   refine brT hc ?_
   refine Zae ?_
   iterate 2 refine Zac ?_
   refine Zaf ?_
   refine ZaR ?_
   repeat (first|refine ZaF ?_|refine ZaG ?_|refine Zaz ?_)
   have J:=(he.trans (Zbo I (by rw[C];exact e2))).trans C
   exact .inr ⟨rfl,fun h=>e2 (J.symm.trans h),_,Zaq ⟨congrArg (fun x=>some (SV.v (.i .i64) x)) J.symm,trivial⟩⟩
theorem ZpZ {e f:Int} (h:e=0):Zcm e f=f:=by rw[h];rfl
theorem Zp2 {e f:Int} (h:e≠0):Zcm e f=e:=by rw[Zcm,decide_eq_false h]
theorem Zjr {α:Type} (f:α→Ne.Item) (l:List α):(l.map f).map (·.1)=l.map fun x=>(f x).1:=by rw[List.map_map];rfl
theorem Zfu {α:Type} (f:α→Ne.Item) (nodes ks:List Txt) (l:List α) (r:List Ne.Item):ZaI nodes ks (l.map f++r)=Zcm (ZaI nodes ks (l.map f)) (ZaI nodes (ks++l.map fun x=>(f x).1) r):=by
 rw[ZlG,Zjr]
abbrev ks2 (n:Ne.Net):List Txt:=n.nodes++n.sws.map (·.1)
abbrev ks3 (n:Ne.Net):List Txt:=ks2 n++n.brs.map (·.1)
abbrev ks4 (n:Ne.Net):List Txt:=ks3 n++n.gens.map (·.1)
abbrev ks5 (n:Ne.Net):List Txt:=ks4 n++n.loads.map (·.1)
theorem Zxm (n:Ne.Net):ZaI n.nodes (ks3 n) (n.gens.map geI++(n.loads.map loI++n.stores.map stI))=Zcm (ZaI n.nodes (ks3 n) (n.gens.map geI)) (Zcm (ZaI n.nodes (ks4 n) (n.loads.map loI)) (ZaI n.nodes (ks5 n) (n.stores.map stI))):=by
 rw[Zfu,Zfu];rfl
theorem ZzA {n:Ne.Net} (h:big n=false):ZeC n=Zcm (ZaI n.nodes [] (n.nodes.map noI)) (Zcm (ZaI n.nodes n.nodes (n.sws.map swI)) (Zcm (ZaI n.nodes (ks2 n) (n.brs.map brI)) (ZaI n.nodes (ks3 n) (n.gens.map geI++(n.loads.map loI++n.stores.map stI))))):=by
 have e:([]++n.nodes.map fun x=>(noI x).1)=n.nodes:=List.map_id' n.nodes
 rw[ZeC,h,ZrU,Zfu,e,Zfu,Zfu];rfl
theorem ZcP {n:Ne.Net} (h:big n=true):ZeC n=2:=by rw[ZeC,h];rfl
theorem ZdJ (n:Ne.Net):big n=((decide ((n.nodes.length:Int)>(24:Int))||(decide ((n.sws.length:Int)>(32:Int))||(decide ((n.brs.length:Int)>(24:Int))||(decide ((n.gens.length:Int)>(10:Int))||(decide ((n.loads.length:Int)>(12:Int))||(decide ((n.stores.length:Int)>(4:Int))))))))):=by
 unfold big
 rw[Xbh]
 simp only[Bool.or_eq_true,decide_eq_true_eq]
 omega
def Zdo (n:Ne.Net):List SV:=[.v (.l .s) n.nodes, .v (.l ZlD) n.sws, .v (.l Zhx) n.brs, .v (.l (.p .s (.p .s (.p (.i .i64) (.p (.i .i64) (.i .i64)))))) n.gens, .v (.l (.p .s (.p .s (.i .i64)))) n.loads, .v (.l (.p .s (.p .s (.p (.i .i64) (.p (.i .i64) (.i .i64)))))) n.stores]
theorem Zcz (n:Ne.Net):rchL (Zdo n)=[]:=rfl
def Zii (n:Ne.Net):Prop:=(∀x∈n.nodes,x.length≤9223372036854775806)∧(∀x∈n.sws,x.1.length≤9223372036854775806)∧(∀x∈n.brs,x.1.length≤9223372036854775806)∧(∀x∈n.gens,x.1.length≤9223372036854775806)∧(∀x∈n.loads,x.1.length≤9223372036854775806)∧(∀x∈n.stores,x.1.length≤9223372036854775806)
theorem ZyA (n:Ne.Net) (J:Zii n) (R:big n=false):
 OpenOK Tryz.prog Zao 37 [.agg [.mp 1, .v (.l .s) n.nodes], .agg (Zdo n)] (hB (Zdo n) n.nodes (ks3 n)) (fun V _=>V= .v (.i .i64) (ZaI n.nodes (ks3 n) (n.gens.map geI++(n.loads.map loI++n.stores.map stI)))):=by
 have I:=R
 simp only[big,Xbg,decide_eq_false_iff_not]at I
 obtain⟨b1,b2,b3,b4,b5,b6⟩:=I
 obtain⟨z1,z2,z3,z4,z5,U⟩:=J
 rw[Zxm]
 refine Zd2 (fn:=Tryz.f37) (code:=Zbn Tryz.f37) Zag (by kernel_rfl) Tryz.func37 (by kernel_rfl) (Xal (by kernel_rfl)) ?_
 intro base
 have l1:=ZwI (Zdo n) n.nodes (ks3 n) n.gens (Zcz n) (by omega) (by omega) z4 base
 have l2:=Zxn (Zdo n) n.nodes (ks4 n) n.loads (Zcz n) (by omega) (by omega) z5 base
 have l3:=Zx0 (Zdo n) n.nodes (ks5 n) n.stores (Zcz n) (by omega) (by omega) U base
 refine Zae ?_
 refine ZbB ?_
 refine ZbB ?_
 refine Zac ?_
 refine Zaf ?_
 refine Zae ?_
 refine Zac ?_
 refine Zap rfl (fun _=>rfl) rfl rfl rfl ?_
 iterate 2 refine Zac ?_
 refine Zaf ?_
 refine(l1.ent ?_).through ?_
 ·exact Zaq ⟨rfl,rfl,rfl,rfl,rfl,trivial⟩
 rintro _ tm hp' (⟨rfl,j,hE⟩|⟨rfl,j,C,hE⟩)
 ·refine⟨_,_,hE, ?_⟩
  rw[ZpZ j]
  show wp _ _ _ _ _ _ _ _ _
  refine Zae ?_
  refine Zac ?_
  refine Zap rfl (fun _=>rfl) rfl rfl rfl ?_
  iterate 2 refine Zac ?_
  refine Zaf ?_
  refine(l2.ent ?_).through ?_
  ·exact Zaq ⟨rfl,rfl,rfl,rfl,rfl,trivial⟩
  rintro _ tm hp' (⟨rfl,j,hE⟩|⟨rfl,j,C,hE⟩)
  ·refine⟨_,_,hE, ?_⟩
   rw[ZpZ j]
   show wp _ _ _ _ _ _ _ _ _
   refine Zae ?_
   refine Zac ?_
   refine Zap rfl (fun _=>rfl) rfl rfl rfl ?_
   iterate 2 refine Zac ?_
   refine Zaf ?_
   refine(l3.ent ?_).through ?_
   ·exact Zaq ⟨rfl,rfl,rfl,rfl,rfl,trivial⟩
   rintro _ tm hp' (⟨rfl,j,hE⟩|⟨rfl,j,C,hE⟩)
   ·refine⟨_,_,hE, ?_⟩
    show wp _ _ _ _ _ _ _ _ _
    refine Zae ?_
    refine Zac ?_
    refine Zaf ?_
    exact congrArg (fun x=>SV.v (.i .i64) x) j.symm
   ·exact⟨_,_,hE,rfl⟩
  ·refine⟨_,_,hE, ?_⟩
   exact congrArg (fun x=>SV.v (.i .i64) x) (Zp2 j).symm
 ·refine⟨_,_,hE, ?_⟩
  exact congrArg (fun x=>SV.v (.i .i64) x) (Zp2 j).symm
theorem ZwZ (n:Ne.Net) (R:Zii n):PureOK Tryz.prog Zao 17 [.agg (Zdo n)] (fun V=>V= .v (.i .i64) (ZeC n)):=by
 refine Zai Zag Tryz.func17 ?_
 refine Zae ?_
 refine ZbB ?_
 refine Zac ?_
 refine Zaf ?_
 cases g1:decide ((n.nodes.length:Int)>(24:Int))with
 |true=>
  have j:ZeC n=2:=ZcP (by rw[ZdJ,g1];simp)
  refine Zae ?_
  refine Zac ?_
  refine Zap rfl (fun _=>rfl) rfl rfl rfl ?_
  iterate 3 refine Zac ?_
  refine Zah g1 ?_
  refine Zah g1 ?_
  refine Zah g1 ?_
  refine Zah g1 ?_
  refine Zat g1 ?_
  refine Zac ?_
  refine Zah rfl ?_
  refine Zah rfl ?_
  refine Zah rfl ?_
  refine Zah rfl ?_
  refine Zat rfl ?_
  refine Zac ?_
  refine Zah rfl ?_
  refine Zah rfl ?_
  refine Zah rfl ?_
  refine Zah rfl ?_
  refine Zat rfl ?_
  refine Zac ?_
  refine Zah rfl ?_
  refine Zah rfl ?_
  refine Zah rfl ?_
  refine Zah rfl ?_
  refine Zat rfl ?_
  refine Zac ?_
  refine Zah rfl ?_
  refine Zah rfl ?_
  refine Zah rfl ?_
  refine Zah rfl ?_
  refine Zat rfl ?_
  refine Zaf ?_
  refine brT g1 ?_
  refine Zae ?_
  refine Zac ?_
  refine Zaf ?_
  exact congrArg (fun x=>SV.v (.i .i64) x) j.symm
 |false=>
  cases g2:decide ((n.sws.length:Int)>(32:Int))with
  |true=>
   have j:ZeC n=2:=ZcP (by rw[ZdJ,g1,g2];simp)
   refine Zae ?_
   refine Zac ?_
   refine Zap rfl (fun _=>rfl) rfl rfl rfl ?_
   iterate 3 refine Zac ?_
   refine Zab g1 ?_
   refine Zaj rfl rfl rfl g1 (fun _=>rfl) rfl rfl rfl ?_
   refine Zab g1 ?_
   refine Zab g1 ?_
   refine Zal g1 ?_
   refine Zac ?_
   refine Zah g2 ?_
   refine Zah g2 ?_
   refine Zah g2 ?_
   refine Zah g2 ?_
   refine Zat g2 ?_
   refine Zac ?_
   refine Zah rfl ?_
   refine Zah rfl ?_
   refine Zah rfl ?_
   refine Zah rfl ?_
   refine Zat rfl ?_
   refine Zac ?_
   refine Zah rfl ?_
   refine Zah rfl ?_
   refine Zah rfl ?_
   refine Zah rfl ?_
   refine Zat rfl ?_
   refine Zac ?_
   refine Zah rfl ?_
   refine Zah rfl ?_
   refine Zah rfl ?_
   refine Zah rfl ?_
   refine Zat rfl ?_
   refine Zaf ?_
   refine brT g2 ?_
   refine Zae ?_
   refine Zac ?_
   refine Zaf ?_
   exact congrArg (fun x=>SV.v (.i .i64) x) j.symm
  |false=>
   cases g3:decide ((n.brs.length:Int)>(24:Int))with
   |true=>
    have j:ZeC n=2:=ZcP (by rw[ZdJ,g1,g2,g3];simp)
    refine Zae ?_
    refine Zac ?_
    refine Zap rfl (fun _=>rfl) rfl rfl rfl ?_
    iterate 3 refine Zac ?_
    refine Zab g1 ?_
    refine Zaj rfl rfl rfl g1 (fun _=>rfl) rfl rfl rfl ?_
    refine Zab g1 ?_
    refine Zab g1 ?_
    refine Zal g1 ?_
    refine Zac ?_
    refine Zab g2 ?_
    refine Zaj rfl rfl rfl g2 (fun _=>rfl) rfl rfl rfl ?_
    refine Zab g2 ?_
    refine Zab g2 ?_
    refine Zal g2 ?_
    refine Zac ?_
    refine Zah g3 ?_
    refine Zah g3 ?_
    refine Zah g3 ?_
    refine Zah g3 ?_
    refine Zat g3 ?_
    refine Zac ?_
    refine Zah rfl ?_
    refine Zah rfl ?_
    refine Zah rfl ?_
    refine Zah rfl ?_
    refine Zat rfl ?_
    refine Zac ?_
    refine Zah rfl ?_
    refine Zah rfl ?_
    refine Zah rfl ?_
    refine Zah rfl ?_
    refine Zat rfl ?_
    refine Zaf ?_
    refine brT g3 ?_
    refine Zae ?_
    refine Zac ?_
    refine Zaf ?_
    exact congrArg (fun x=>SV.v (.i .i64) x) j.symm
   |false=>
    cases g4:decide ((n.gens.length:Int)>(10:Int))with
    |true=>
     have j:ZeC n=2:=ZcP (by rw[ZdJ,g1,g2,g3,g4];simp)
     refine Zae ?_
     refine Zac ?_
     refine Zap rfl (fun _=>rfl) rfl rfl rfl ?_
     iterate 3 refine Zac ?_
     refine Zab g1 ?_
     refine Zaj rfl rfl rfl g1 (fun _=>rfl) rfl rfl rfl ?_
     refine Zab g1 ?_
     refine Zab g1 ?_
     refine Zal g1 ?_
     refine Zac ?_
     refine Zab g2 ?_
     refine Zaj rfl rfl rfl g2 (fun _=>rfl) rfl rfl rfl ?_
     refine Zab g2 ?_
     refine Zab g2 ?_
     refine Zal g2 ?_
     refine Zac ?_
     refine Zab g3 ?_
     refine Zaj rfl rfl rfl g3 (fun _=>rfl) rfl rfl rfl ?_
     refine Zab g3 ?_
     refine Zab g3 ?_
     refine Zal g3 ?_
     refine Zac ?_
     refine Zah g4 ?_
     refine Zah g4 ?_
     refine Zah g4 ?_
     refine Zah g4 ?_
     refine Zat g4 ?_
     refine Zac ?_
     refine Zah rfl ?_
     refine Zah rfl ?_
     refine Zah rfl ?_
     refine Zah rfl ?_
     refine Zat rfl ?_
     refine Zaf ?_
     refine brT g4 ?_
     refine Zae ?_
     refine Zac ?_
     refine Zaf ?_
     exact congrArg (fun x=>SV.v (.i .i64) x) j.symm
    |false=>
     cases g5:decide ((n.loads.length:Int)>(12:Int))with
     |true=>
      have j:ZeC n=2:=ZcP (by rw[ZdJ,g1,g2,g3,g4,g5];simp)
      refine Zae ?_
      refine Zac ?_
      refine Zap rfl (fun _=>rfl) rfl rfl rfl ?_
      iterate 3 refine Zac ?_
      refine Zab g1 ?_
      refine Zaj rfl rfl rfl g1 (fun _=>rfl) rfl rfl rfl ?_
      refine Zab g1 ?_
      refine Zab g1 ?_
      refine Zal g1 ?_
      refine Zac ?_
      refine Zab g2 ?_
      refine Zaj rfl rfl rfl g2 (fun _=>rfl) rfl rfl rfl ?_
      refine Zab g2 ?_
      refine Zab g2 ?_
      refine Zal g2 ?_
      refine Zac ?_
      refine Zab g3 ?_
      refine Zaj rfl rfl rfl g3 (fun _=>rfl) rfl rfl rfl ?_
      refine Zab g3 ?_
      refine Zab g3 ?_
      refine Zal g3 ?_
      refine Zac ?_
      refine Zab g4 ?_
      refine Zaj rfl rfl rfl g4 (fun _=>rfl) rfl rfl rfl ?_
      refine Zab g4 ?_
      refine Zab g4 ?_
      refine Zal g4 ?_
      refine Zac ?_
      refine Zah g5 ?_
      refine Zah g5 ?_
      refine Zah g5 ?_
      refine Zah g5 ?_
      refine Zat g5 ?_
      refine Zaf ?_
      refine brT g5 ?_
      refine Zae ?_
      refine Zac ?_
      refine Zaf ?_
      exact congrArg (fun x=>SV.v (.i .i64) x) j.symm
     |false=>
      cases g6:decide ((n.stores.length:Int)>(4:Int))with
      |true=>
       have j:ZeC n=2:=ZcP (by rw[ZdJ,g1,g2,g3,g4,g5,g6];simp)
       refine Zae ?_
       refine Zac ?_
       refine Zap rfl (fun _=>rfl) rfl rfl rfl ?_
       iterate 3 refine Zac ?_
       refine Zab g1 ?_
       refine Zaj rfl rfl rfl g1 (fun _=>rfl) rfl rfl rfl ?_
       refine Zab g1 ?_
       refine Zab g1 ?_
       refine Zal g1 ?_
       refine Zac ?_
       refine Zab g2 ?_
       refine Zaj rfl rfl rfl g2 (fun _=>rfl) rfl rfl rfl ?_
       refine Zab g2 ?_
       refine Zab g2 ?_
       refine Zal g2 ?_
       refine Zac ?_
       refine Zab g3 ?_
       refine Zaj rfl rfl rfl g3 (fun _=>rfl) rfl rfl rfl ?_
       refine Zab g3 ?_
       refine Zab g3 ?_
       refine Zal g3 ?_
       refine Zac ?_
       refine Zab g4 ?_
       refine Zaj rfl rfl rfl g4 (fun _=>rfl) rfl rfl rfl ?_
       refine Zab g4 ?_
       refine Zab g4 ?_
       refine Zal g4 ?_
       refine Zac ?_
       refine Zab g5 ?_
       refine Zaj rfl rfl rfl g5 (fun _=>rfl) rfl rfl rfl ?_
       refine Zab g5 ?_
       refine Zab g5 ?_
       refine Zal g5 ?_
       refine Zaf ?_
       refine brT g6 ?_
       refine Zae ?_
       refine Zac ?_
       refine Zaf ?_
       exact congrArg (fun x=>SV.v (.i .i64) x) j.symm
      |false=>
       refine Zae ?_
       refine Zac ?_
       refine Zap rfl (fun _=>rfl) rfl rfl rfl ?_
       iterate 3 refine Zac ?_
       refine Zab g1 ?_
       refine Zaj rfl rfl rfl g1 (fun _=>rfl) rfl rfl rfl ?_
       refine Zab g1 ?_
       refine Zab g1 ?_
       refine Zal g1 ?_
       refine Zac ?_
       refine Zab g2 ?_
       refine Zaj rfl rfl rfl g2 (fun _=>rfl) rfl rfl rfl ?_
       refine Zab g2 ?_
       refine Zab g2 ?_
       refine Zal g2 ?_
       refine Zac ?_
       refine Zab g3 ?_
       refine Zaj rfl rfl rfl g3 (fun _=>rfl) rfl rfl rfl ?_
       refine Zab g3 ?_
       refine Zab g3 ?_
       refine Zal g3 ?_
       refine Zac ?_
       refine Zab g4 ?_
       refine Zaj rfl rfl rfl g4 (fun _=>rfl) rfl rfl rfl ?_
       refine Zab g4 ?_
       refine Zab g4 ?_
       refine Zal g4 ?_
       refine Zac ?_
       refine Zab g5 ?_
       refine Zaj rfl rfl rfl g5 (fun _=>rfl) rfl rfl rfl ?_
       refine Zab g5 ?_
       refine Zab g5 ?_
       refine Zal g5 ?_
       refine Zaf ?_
       refine brF g6 ?_
       have J:big n=false:=by rw[ZdJ,g1,g2,g3,g4,g5,g6];rfl
       have j:=ZzA J
       have U:=ZyA n R J
       have I:=J
       simp only[big,Xbg,decide_eq_false_iff_not]at I
       obtain⟨b1,b2,b3,b4,b5,b6⟩:=I
       obtain⟨z1,z2,z3,z4,z5,z6⟩:=R
       have l1:=ZwO (Zdo n) n.nodes (Zcz n) (by omega) z1
       have l2:=Zxu (Zdo n) n.nodes n.nodes n.sws (Zcz n) (by omega) (by omega) z2
       have l3:=Zxw (Zdo n) n.nodes (ks2 n) n.brs (Zcz n) (by omega) (by omega) z3
       rw[j]
       refine Zae ?_
       refine ZbB ?_
       refine Zac ?_
       refine Zap rfl (fun _=>rfl) rfl rfl rfl ?_
       refine Zac ?_
       refine ZbB ?_
       refine Zad rfl (ZaP rfl rfl rfl rfl rfl rfl rfl rfl ?_)
       refine ZaC rfl ?_
       refine Zaf ?_
       refine Zae ?_
       refine Zac ?_
       refine Zap rfl (fun _=>rfl) rfl rfl rfl ?_
       iterate 2 refine Zac ?_
       refine Zaf ?_
       refine(l1.ent ?_).through ?_
       ·exact Zaq ⟨rfl,rfl,rfl,rfl,rfl,trivial⟩
       rintro _ tm hp' (⟨rfl,C,hE⟩|⟨rfl,C,hE⟩)
       ·refine⟨_,_,hE, ?_⟩
        rw[ZpZ C]
        show wp _ _ _ _ _ _ _ _ _
        refine Zae ?_
        refine Zac ?_
        refine Zap rfl (fun _=>rfl) rfl rfl rfl ?_
        iterate 2 refine Zac ?_
        refine Zaf ?_
        refine(l2.ent ?_).through ?_
        ·exact Zaq ⟨rfl,rfl,rfl,rfl,rfl,trivial⟩
        rintro _ tm hp' (⟨rfl,C,hE⟩|⟨rfl,C,hE⟩)
        ·refine⟨_,_,hE, ?_⟩
         rw[ZpZ C]
         show wp _ _ _ _ _ _ _ _ _
         refine Zae ?_
         refine Zac ?_
         refine Zap rfl (fun _=>rfl) rfl rfl rfl ?_
         iterate 2 refine Zac ?_
         refine Zaf ?_
         refine(l3.ent ?_).through ?_
         ·exact Zaq ⟨rfl,rfl,rfl,rfl,rfl,trivial⟩
         rintro _ tm hp' (⟨rfl,C,hE⟩|⟨rfl,C,hE⟩)
         ·refine⟨_,_,hE, ?_⟩
          rw[ZpZ C]
          show wp _ _ _ _ _ _ _ _ _
          refine Zae ?_
          refine Zap rfl (fun _=>rfl) rfl rfl rfl ?_
          refine Zap rfl (fun _=>rfl) rfl rfl rfl ?_
          refine Zad rfl ((U.mono ?_))
          rintro _ hp' rfl
          refine Zaa rfl rfl ?_
          refine Zac ?_
          refine Zaf ?_
          rfl
         ·refine⟨_,_,hE, ?_⟩
          exact congrArg (fun x=>SV.v (.i .i64) x) (Zp2 C).symm
        ·refine⟨_,_,hE, ?_⟩
         exact congrArg (fun x=>SV.v (.i .i64) x) (Zp2 C).symm
       ·refine⟨_,_,hE, ?_⟩
        exact congrArg (fun x=>SV.v (.i .i64) x) (Zp2 C).symm
open Go.Am Go.Tx Dv Go.Lib
theorem ZuV (s:List UInt8) (c:UInt8):PureOK Tryz.prog Zao 86 [.v .s s, .v .s [c]] (fun V=>V= .v (.i .i64) (ZbV s c 0)):=by
 refine⟨fun C j=> ?_⟩
 simp only[RL,RV,RR,List.cons.injEq,and_true]at j
 obtain⟨_,_,rfl,rfl,_,_,rfl,rfl,rfl⟩:=j
 refine⟨.int .i64 (ZbV s c 0),_, ?_, ?_,rfl⟩
 ·show(indexG [.str ⟨s.toArray⟩, .str ⟨[c].toArray⟩]).bind (fun v=>exp ZaL [] v)=_
  rfl
 ·simp only[RV,RR]
theorem ZvZ (s:List UInt8) (c:UInt8): -1≤ZbV s c 0∧ZbV s c 0<s.length:=by
 have h: ∀ (l:List UInt8) (i:Nat),-1≤ZbV l c i∧ZbV l c i<i+l.length∨ZbV l c i= -1:=by
  intro l
  induction l with
  |nil=>intro i;right;rfl
  |cons b l j=>
   intro i
   rw[ZbV]
   cases Nat.beq b.toNat c.toNat with
   |true=>left;simp only[Xap];omega
   |false=>
    simp only
    rcases j (i+1)with h|h
    ·left;simp only[Xap];omega
    ·right;exact h
 rcases h s 0 with h|h<;>omega
theorem Zy0 (s:List UInt8) (c:UInt8) (hl:s.length≤9223372036854775806):PureOK Tryz.prog Zao 67 [.v .s s, .v .s [c]] (fun V=>V= .tup [.v .s (ZdA s c).1, .v .s (ZdA s c).2.1, .v .b (ZdA s c).2.2]):=by
 refine Zai Zag Tryz.func67 ?_
 have hi:=ZvZ s c
 refine(ZuV s c).mono ?_
 rintro _ rfl
 obtain⟨k,I⟩: ∃k,ZbV s c 0=k:=⟨_,rfl⟩
 have j:ZdA s c=match decide (0≤k)with|true=>(s.take k.toNat,s.drop (k.toNat+1),true)|false=>(s,[],false):=by rw[←I];rfl
 rw[I]at hi⊢
 refine Xaa (fun h=> ?_) (fun h=> ?_)
 ·have C:decide (0≤k)=true:=h
  have R:0≤k:=of_decide_eq_true C
  have J:IntKind.i64.wrap (k+1)=k+1:=Zan (by omega) (by omega)
  refine Xaa (show 0≤k∧k≤(s.length:Int)from⟨R,by omega⟩) ?_
  refine Xaa (by show 0≤IntKind.i64.wrap (k+1)∧IntKind.i64.wrap (k+1)≤(s.length:Int);rw[J];omega) ?_
  have U:List.drop (IntKind.i64.wrap (k+1)).toNat (List.take s.length s)=s.drop (k.toNat+1):=by
   rw[J,XaC,show(k+1).toNat=k.toNat+1 by omega]
  show SV.tup [.v .s (List.drop 0 (List.take k.toNat s)), .v .s (List.drop (IntKind.i64.wrap (k+1)).toNat (List.take s.length s)), .v .b true]=_
  rw[U,j,C]
  rfl
 ·have C:decide (0≤k)=false:=h
  rw[j,C]
  rfl
theorem Zzl (s:List UInt8) (c:UInt8) (j:s.length≤9223372036854775806):PureOK Tryz.prog Zao 49 [.v .s s, .v .s [c]] (fun V=>V= .tup [.v .s (ZdA s c).1, .v .s (ZdA s c).2.1, .v .b (ZdA s c).2.2]):=by
 refine Zai Zag Tryz.func49 ?_
 refine(Zy0 s c j).mono ?_
 rintro _ rfl
 rfl
open Go.Am Go.Tx Dv
theorem Zp8 (ds:List UInt8):Zm5 (45::ds) [45]=true:=by simp[Zm5];omega
theorem Znp {ds:List UInt8} (h:Dg ds):Zm5 ds [45]=false:=by
 cases ds with
 |nil=>rfl
 |cons c r=>
  have j:=h c Xah
  have C:c≠45:=by rintro rfl;exact absurd j.1 (by decide)
  simp[Zm5,C]
theorem Zwn {s:List UInt8} (h:Dg s):(wOf (dec s)).length≤s.length:=by
 rw[ZdR]
 exact XaJ (ZbI h) (Nat.pow_le_pow_left (by decide) _)
theorem Ztf (s:List UInt8) (n:Nat):dec s=dec (s.take n)*10^(s.drop n).length+dec (s.drop n):=by
 conv=>lhs;rw[←XaR n s]
 exact Zk3 _ _
def ZtE (neg:Bool) (ds:List UInt8):List UInt8:=match neg with|true=>45::ds|false=>ds
def ZAL (neg:Bool) (t:List UInt8×Nat):TM:=[(0, .v .s t.1),(2, .ptr 0 0 0),(3, .v .b neg),(4, .ptr 1 0 0)]
def ZAr (t:List UInt8×Nat):List SM:=[.cell [.v .b false, .nils] true, .cell [.v .b false,Zby (wOf t.2)] true]
theorem Zty (neg:Bool) (ds:List UInt8) (U:Dg ds) (hl:ds.length≤300000):PureOK Tryz.prog Zao 50 [.v .s (ZtE neg ds)] (fun V=>V=IS (sg neg (dec ds:Nat))):=by
 obtain⟨s,hs⟩: ∃s,ZtE neg ds=s:=⟨_,rfl⟩
 have hP:Zm5 s [45]=neg:=by cases neg<;>subst hs<;>first|exact Zp8 ds|exact Znp U
 have hT:(match Zm5 s [45]with|true=>s.drop [(45:UInt8)].length|false=>s)=ds:=by rw[hP];cases neg<;>subst hs<;>rfl
 rw[hs]
 refine Zai Zag Tryz.func50 ?_
 refine(ZnS s [45]).mono ?_
 rintro _ rfl
 refine(Zhv s [45]).mono ?_
 rintro _ rfl
 refine Xaa rfl ?_
 refine Zaw Zag rfl (ZAL neg) ZAr (fun t=>Dg t.1∧t.1.length≤ds.length∧dec ds=t.2*10^t.1.length+dec t.1∧(t.2=0∨t.1.length % 9=0)) (fun t=>t.1.length) ?_ (ds,0) ?_ ?_
 ·rintro⟨r,v⟩ ⟨h1,h2,h3,h4⟩
  simp only at h1 h2 h3 h4
  refine Xaa (fun h=> ?_) (fun h=> ?_)
  ·have hr:1≤r.length:=by have j:(0:Int)<(r.length:Int):=of_decide_eq_true h;omega
   obtain⟨n,hn⟩: ∃n,n=(r.length-1) % 9+1:=⟨_,rfl⟩
   have e1:IntKind.i64.wrap ((r.length:Int)-1)=((r.length-1:Nat):Int):=by rw[Zan (by omega) (by omega)];omega
   have e2:IntKind.i64.wrap ((IntKind.i64.wrap ((r.length:Int)-1)).tmod 9+1)=(n:Int):=by
    rw[e1,XbE (by omega),Zan (by omega) (by omega)];omega
   have ak:n≤r.length:=by omega
   have bn:(0:Int)≤IntKind.i64.wrap ((IntKind.i64.wrap ((r.length:Int)-1)).tmod 9+1)∧IntKind.i64.wrap ((IntKind.i64.wrap ((r.length:Int)-1)).tmod 9+1)≤(r.length:Int):=by rw[e2];omega
   have al:(r.take n).length=n:=by rw[Xas];omega
   have C:Dg (r.take n):=fun c hc=>h1 c (XaH hc)
   have aa:Dg (r.drop n):=fun c hc=>h1 c (Xbl hc)
   refine Xaa (by decide) ?_
   refine Xaa bn ?_
   have et:List.drop 0 (List.take (IntKind.i64.wrap ((IntKind.i64.wrap ((r.length:Int)-1)).tmod 9+1)).toNat r)=r.take n:=by rw[e2,XaB,Xad]
   have I:=ZnA (r.take n) C (by omega) (by omega)
   rw[←et]at I
   refine I.mono ?_
   rintro _ rfl
   have ab:v≤dec ds:=by
    have:v*1≤v*10^r.length:=Nat.mul_le_mul_left _ (Nat.one_le_pow _ _ (by decide))
    omega
   have an:ln (v:Int)≤300000:=by
    rw[ln,XaV]
    exact XaM (ZbK ab) (XaM (Zwn U) hl)
   have ad:=ZbI C
   have ao:dec (r.take n)<1000000000:=XaJ ad (XaW (by decide) (show(r.take n).length≤9 by omega))
   obtain⟨d,ed⟩: ∃d:Nat,dec (List.drop 0 (List.take (IntKind.i64.wrap ((IntKind.i64.wrap ((r.length:Int)-1)).tmod 9+1)).toNat r))=d:=⟨_,rfl⟩
   have ae:dec (r.take n)=d:=by rw[←ed,et]
   have J:IntKind.i64.wrap ((dec (List.drop 0 (List.take (IntKind.i64.wrap ((IntKind.i64.wrap ((r.length:Int)-1)).tmod 9+1)).toNat r)):Nat):Int)=(d:Int):=by rw[ed];exact Zan (by omega) (by omega)
   refine Xaa rfl ?_
   refine(ZzC 1000000000 (by decide) (by decide)).mono ?_
   rintro _ rfl
   have l9:ln 1000000000≤2:=ZpL (by decide)
   have hmul:=Zyf (v:Int) 1000000000 (by omega) (by omega)
   rw[Zre v]at hmul
   refine hmul.mono ?_
   rintro _ rfl
   have R:=ZzC (d:Int) (by omega) (by omega)
   rw[←J]at R
   refine R.mono ?_
   rintro _ rfl
   rw[J]
   have ld:ln (d:Int)≤2:=ZpL (by omega)
   have lm:=Zsz (v:Int) 1000000000
   refine(Zzj ((v:Int)*1000000000) (d:Int) (by omega) (by omega)).mono ?_
   rintro _ rfl
   refine Xaa rfl ?_
   refine Xaa bn ?_
   have af:List.drop (IntKind.i64.wrap ((IntKind.i64.wrap ((r.length:Int)-1)).tmod 9+1)).toNat (List.take r.length r)=r.drop n:=by rw[e2,XaC,Xad]
   have ag:((v*1000000000+d:Nat):Int)=(v:Int)*1000000000+d:=by omega
   have c1:false=decide ((v:Int)*1000000000+(d:Int)<0):=(decide_eq_false (by omega)).symm
   have c2:wOf (v*1000000000+d)=wOf ((v:Int)*1000000000+(d:Int)).natAbs:=by rw[←ag,XaV]
   refine⟨(r.drop n,v*1000000000+d),⟨aa,by show(r.drop n).length≤_;rw[XaZ];omega, ?_, .inr ?_⟩,by show(r.drop n).length<r.length;rw[XaZ];omega, ?_⟩
   ·show dec ds=(v*1000000000+d)*10^(r.drop n).length+dec (r.drop n)
    have ah:=Ztf r n
    rw[ae]at ah
    rw[h3]
    have ai:v*10^r.length=v*1000000000*10^(r.drop n).length:=by
     rcases h4 with h4|h4
     ·rw[h4];simp
     ·have:n=9:=by omega
      rw[XaZ,this,Nat.mul_assoc,show 1000000000=10^9 from rfl,←Nat.pow_add,show 9+(r.length-9)=r.length by omega]
    rw[ai,Xa4]
    omega
   ·show(r.drop n).length % 9=0
    rw[XaZ];omega
   ·refine Zas rfl rfl ?_ ?_
    ·exact⟨af.symm,⟨rfl,rfl⟩,rfl,⟨rfl,rfl⟩,trivial⟩
    ·exact⟨⟨⟨rfl,trivial,trivial⟩,fun _=>rfl⟩,⟨⟨c1,c2,trivial⟩,fun _=>rfl⟩,trivial⟩
  ·have hr:r=[]:=by
    cases r with
    |nil=>rfl
    |cons c l=>
     have j: ¬ (0:Int)<((c::l).length:Int):=of_decide_eq_false h
     simp at j
   subst hr
   have hv:dec ds=v:=by
    rw[h3,ZkE];simp
   have aj:decide ((0:Int)<((wOf v).length:Int))=decide (0<v):=by
    refine decide_eq_decide.2 ?_
    have:=ZfW (n:=v)
    rw[←XaY]at this
    omega
   have fin:SV.agg [.v .b (neg&&decide ((0:Int)<((wOf v).length:Int))),Zby (wOf v)]=IS (sg neg (dec ds:Nat)):=by
    rw[hv,aj]
    show _=SV.agg [.v .b (decide (sg neg (v:Int)<0)),Zby (wOf (sg neg (v:Int)).natAbs)]
    rw[Ztr,XaV]
    have:(neg&&decide (0<v))=decide (sg neg (v:Int)<0):=by
     cases neg with
     |true=>
      simp only[Bool.true_and,sg]
      exact decide_eq_decide.2 (by omega)
     |false=>
      simp only[XbD,sg]
      exact(decide_eq_false (by omega)).symm
    rw[this]
   cases neg with
   |true=>
    refine Xaa (fun _=> ?_) (fun j=>nomatch j)
    refine Xaa (fun _=> ?_) (fun j=>nomatch j)
    refine Xaa rfl ?_
    refine Xaa (fun _=> ?_) (fun j=>nomatch j)
    refine Xaa (fun _=> ?_) (fun j=>nomatch j)
    refine Xaa (fun _=> ?_) (fun j=>nomatch j)
    refine⟨rfl,rfl,rfl,rfl,fin⟩
   |false=>
    refine Xaa (fun j=>nomatch j) (fun _=> ?_)
    refine Xaa (fun j=>nomatch j) (fun _=> ?_)
    refine Xaa (fun j=>nomatch j) (fun _=> ?_)
    refine Xaa (fun j=>nomatch j) (fun _=> ?_)
    refine Xaa (fun j=>nomatch j) (fun _=> ?_)
    refine⟨rfl,rfl,rfl,rfl,fin⟩
 ·refine⟨U,Xan _,by simp, .inl rfl⟩
 ·refine Zas rfl rfl ?_ ?_
  ·exact⟨hT.symm,⟨rfl,rfl⟩,hP.symm,⟨rfl,rfl⟩,trivial⟩
  ·exact⟨⟨⟨rfl,trivial,trivial⟩,fun _=>rfl⟩,⟨⟨rfl,Zel,trivial⟩,fun _=>rfl⟩,trivial⟩
theorem Zr4 {s:List UInt8} {i:Nat} (h:i<s.length):(ZdH s)[i]? =some ((s[i].toNat:Nat):Int):=by
 simp[ZdH,Xac h]
theorem Zfi (s:List UInt8) (hl:s.length≤9223372036854775806):PureOK Tryz.prog Zao 84 [.v .s s] (fun V=>V= .v (.i .i64) (ZaE s)):=by
 refine Zai Zag Tryz.func84 ?_
 have ah:(ZdH s).length=s.length:=by simp[ZdH]
 refine Zaw Zag rfl (fun(i:Nat)=> [(0, .v .s s),(6, .v (.l (.i .u8)) (ZdH s)),(7, .v (.i .i64) (s.length:Int)),(8, .v (.i .i64) (i:Int))]) (fun _=> [])
  (fun i=>i≤s.length∧Dg (s.take i)) (fun i=>s.length-i) ?_ 0 ?_ ?_
 ·rintro i ⟨hi,hd⟩
  refine Xaa (fun h=> ?_) (fun h=> ?_)
  ·have I:i<s.length:=by have h':(i:Int)<(s.length:Int):=of_decide_eq_true h;omega
   obtain⟨c,hc⟩: ∃c,s[i]=c:=⟨_,rfl⟩
   have hx:(ZdH s)[(i:Int).toNat]? =some ((c.toNat:Nat):Int):=by rw[Xad,Zr4 I,hc]
   refine⟨((c.toNat:Nat):Int),Xaj i,hx, ?_⟩
   have bad: ¬ (48≤c.toNat∧c.toNat≤57)→ZaE s=5:=by
    intro h
    have:cnB s=false:=by
     cases hb:cnB s with
     |false=>rfl
     |true=>exact absurd (hc▸(ZiP.1 hb).2.1 _ (Xax I)) h
    simp only[ZaE,this]
   refine ZaX (Zbe rfl ?_)
   iterate 3 refine Zac ?_
   cases J:decide (((c.toNat:Nat):Int)<48)with
   |true=>
    have j:((c.toNat:Nat):Int)<48:=of_decide_eq_true J
    iterate 2 refine Zah rfl ?_
    refine Zat rfl ?_
    refine Zbr ?_
    refine brT rfl ?_
    exact congrArg (SV.v (.i .i64)) (bad (by omega)).symm
   |false=>
    have j: ¬ ((c.toNat:Nat):Int)<48:=of_decide_eq_false J
    iterate 2 refine Zab rfl ?_
    refine Zal rfl ?_
    refine Zbr ?_
    refine Xaa (fun h2=> ?_) (fun h2=> ?_)
    ·have ab:(57:Int)<((c.toNat:Nat):Int):=of_decide_eq_true h2
     exact congrArg (SV.v (.i .i64)) (bad (by omega)).symm
    ·have ab: ¬ (57:Int)<((c.toNat:Nat):Int):=of_decide_eq_false h2
     have wi:IntKind.i64.wrap ((i:Int)+1)=((i+1:Nat):Int):=Zan (by omega) (by omega)
     refine⟨i+1,⟨I, ?_⟩,by show s.length-(i+1)<s.length-i;omega, ?_⟩
     ·rw[XaQ I]
      refine hd.app ?_
      intro x hx
      rw[Xat.1 hx,hc];omega
     ·refine Zas rfl rfl ?_ ?_
      ·exact⟨rfl,rfl,rfl,wi.symm,trivial⟩
      ·exact trivial
  ·have he:i=s.length:=by have h': ¬ (i:Int)<(s.length:Int):=of_decide_eq_false h;omega
   subst he
   rw[XaC]at hd
   have af:=Zks.2 hd
   refine ZaX (ZeR rfl (ZaX (Zbe rfl ?_)))
   have ad:cnB s=true→(2000:Int)<(s.length:Int)→ZaE s=2:=fun J h2=>by
    have hb:Nat.ble s.length 2000=false:=by
     cases hb:Nat.ble s.length 2000 with
     |false=>rfl
     |true=>have:=Xal hb;omega
    simp only[ZaE,J,hb]
   have aa:cnB s=true→ ¬ (2000:Int)<(s.length:Int)→ZaE s=0:=fun J h2=>by
    simp only[ZaE,J,Xbj (show s.length≤2000 by omega)]
   have bad:cnB s=false→ZaE s=5:=fun h=>by simp only[ZaE,h]
   iterate 3 refine Zac ?_
   cases J:(s==([]:List UInt8))with
   |true=>
    have j:s=[]:=by simpa using J
    iterate 4 refine Zah rfl ?_
    iterate 3 refine Zcs ?_
    refine Zah rfl ?_
    refine Zat rfl ?_
    refine Zac ?_
    refine Zbr ?_
    refine brT rfl ?_
    exact congrArg (SV.v (.i .i64)) (bad (by subst j;rfl)).symm
   |false=>
    have j:s≠ []:=by simpa using J
    have ag:s.isEmpty=false:=by simpa using j
    iterate 3 refine Zab rfl ?_
    refine Zab rfl ?_
    cases h2:decide ((1:Int)<(s.length:Int))with
    |true=>
     have ab:(1:Int)<(s.length:Int):=of_decide_eq_true h2
     obtain⟨c,r,hs⟩: ∃c r,s=c::r:=by
      cases s with
      |nil=>exact absurd rfl j
      |cons c r=>exact⟨c,r,rfl⟩
     have ae:decide (1<s.length)=true:=decide_eq_true (by omega)
     have C:cnB s= !decide (((c.toNat:Nat):Int)=48):=by
      simp only[cnB,af,ag,ae,Bool.true_and,XbC]
      congr 1
      rw[hs,List.head?_cons]
      by_cases h:c=48
      ·subst h;rfl
      ·have h3: ¬ ((c.toNat:Nat):Int)=48:=fun h4=>h (UInt8.toNat_inj.1 (by show c.toNat=48;omega))
       rw[decide_eq_false h3]
       simp[h]
     refine Zab rfl ?_
     refine ZbZ (x:=c) rfl rfl rfl rfl (fun _=>rfl) (XaT 0) (by rw[hs];rfl) rfl rfl ?_
     refine Zab rfl ?_
     refine Za0 rfl rfl rfl rfl rfl rfl rfl rfl rfl rfl ?_
     refine Zal rfl ?_
     refine Zac ?_
     refine Zbr ?_
     refine Xaa (fun h3=> ?_) (fun h3=> ?_)
     ·have R:decide (((c.toNat:Nat):Int)=48)=true:=h3
      exact congrArg (SV.v (.i .i64)) (bad (by rw[C,R];rfl)).symm
     ·have R:decide (((c.toNat:Nat):Int)=48)=false:=h3
      refine Xaa (fun h4=> ?_) (fun h4=> ?_)
      ·have U:(2000:Int)<(s.length:Int):=of_decide_eq_true h4
       exact congrArg (SV.v (.i .i64)) (ad (by rw[C,R];rfl) U).symm
      ·have U: ¬ (2000:Int)<(s.length:Int):=of_decide_eq_false h4
       exact congrArg (SV.v (.i .i64)) (aa (by rw[C,R];rfl) U).symm
    |false=>
     have ab: ¬ (1:Int)<(s.length:Int):=of_decide_eq_false h2
     have ae:decide (1<s.length)=false:=decide_eq_false (by omega)
     have C:cnB s=true:=by simp only[cnB,af,ag,ae,Bool.true_and,XbD,XbC,Bool.and_self]
     iterate 3 refine Zah rfl ?_
     refine Za9 rfl rfl rfl rfl rfl rfl rfl rfl rfl rfl ?_
     refine Zal rfl ?_
     refine Zac ?_
     refine Zbr ?_
     refine brF rfl ?_
     refine Xaa (fun h4=> ?_) (fun h4=> ?_)
     ·have U:(2000:Int)<(s.length:Int):=of_decide_eq_true h4
      omega
     ·exact congrArg (SV.v (.i .i64)) (aa C (by omega)).symm
 ·exact⟨Xao _,fun c hc=>by simp at hc⟩
 ·refine Zas rfl rfl ?_ ?_
  ·exact⟨rfl,rfl,by rw[←ah];rfl,rfl,trivial⟩
  ·exact trivial
def Zyq (a b:List UInt8):SV:=match decide (ZjA a b=0)with
 |true=> .tup [IS (dec a:Nat),IS (dec b:Nat), .v (.i .i64) (0:Int)]
 |false=> .tup [.agg [.v .b false, .nils], .agg [.v .b false, .nils], .v (.i .i64) (ZjA a b)]
theorem ZA8 (a b:List UInt8) (I:a.length≤9223372036854775806) (J:b.length≤9223372036854775806):PureOK Tryz.prog Zao 99 [.v .s a, .v .s b] (fun V=>V=Zyq a b):=by
 refine Zai Zag Tryz.func99 ?_
 refine Zaw Zag rfl (fun(i:Nat)=> [(0, .v .s a),(1, .v .s b),(4, .ptr 0 0 0),(5, .ptr 1 0 0),(12, .agg [.v .s a, .v .s b]),(13, .v (.i .i64) (i:Int))]) (fun _=> [.cell [.v .b false, .nils] true, .cell [.v .b false, .nils] true])
  (fun i=>i≤2∧(1≤i→ZaE a=0)∧(2≤i→ZaE b=0)) (fun i=>2-i) ?_ 0 ?_ ?_
 ·rintro i ⟨hi,R,h2⟩
  rcases(show i=0∨i=1∨i=2 by omega)with rfl|rfl|rfl
  ·refine brT rfl ?_
   refine Xaa ⟨by decide,by decide⟩ ?_
   refine(Zfi a I).mono ?_
   rintro _ rfl
   refine Xaa (fun h=> ?_) (fun h=> ?_)
   ·have j:(!decide (ZaE a=0))=true:=h
    have he:decide (ZaE a=0)=false:=by cases U:decide (ZaE a=0)<;>simp[U]at j⊢
    have hE:ZjA a b=ZaE a:=by simp only[ZjA,he]
    refine⟨rfl,rfl,rfl,rfl, ?_⟩
    simp only[Zyq,hE,he]
    rfl
   ·have j:(!decide (ZaE a=0))=false:=h
    have he:ZaE a=0:=by simpa using j
    refine⟨1,⟨by decide,fun _=>he,fun h=>absurd h (by decide)⟩,by decide, ?_⟩
    refine Zas rfl rfl ?_ ?_
    ·exact⟨rfl,rfl,⟨rfl,rfl⟩,⟨rfl,rfl⟩,⟨rfl,rfl,trivial⟩,rfl,trivial⟩
    ·exact⟨⟨⟨rfl,trivial,trivial⟩,fun _=>rfl⟩,⟨⟨rfl,trivial,trivial⟩,fun _=>rfl⟩,trivial⟩
  ·have C:=R (by decide)
   refine brT rfl ?_
   refine Xaa ⟨by decide,by decide⟩ ?_
   refine(Zfi b J).mono ?_
   rintro _ rfl
   have hE:ZjA a b=ZaE b:=by simp only[ZjA,C,decide_true]
   refine Xaa (fun h=> ?_) (fun h=> ?_)
   ·have j:(!decide (ZaE b=0))=true:=h
    have he:decide (ZaE b=0)=false:=by cases U:decide (ZaE b=0)<;>simp[U]at j⊢
    refine⟨rfl,rfl,rfl,rfl, ?_⟩
    simp only[Zyq,hE,he]
    rfl
   ·have j:(!decide (ZaE b=0))=false:=h
    have he:ZaE b=0:=by simpa using j
    refine⟨2,⟨by decide,fun _=>C,fun _=>he⟩,by decide, ?_⟩
    refine Zas rfl rfl ?_ ?_
    ·exact⟨rfl,rfl,⟨rfl,rfl⟩,⟨rfl,rfl⟩,⟨rfl,rfl,trivial⟩,rfl,trivial⟩
    ·exact⟨⟨⟨rfl,trivial,trivial⟩,fun _=>rfl⟩,⟨⟨rfl,trivial,trivial⟩,fun _=>rfl⟩,trivial⟩
  ·have C:=Zbg (R (by decide))
   have hb:=Zbg (h2 (by decide))
   have hE:ZjA a b=0:=by simp only[ZjA,R (by decide),decide_true,h2 (by decide)]
   refine brF rfl ?_
   refine(Zty false a C.1.2.1 (by omega)).mono ?_
   rintro _ rfl
   refine(Zty false b hb.1.2.1 (by omega)).mono ?_
   rintro _ rfl
   refine⟨rfl,rfl,rfl,rfl, ?_⟩
   simp only[Zyq,hE,decide_true]
   rfl
 ·exact⟨by decide,fun h=>absurd h (by decide),fun h=>absurd h (by decide)⟩
 ·refine Zas rfl rfl ?_ ?_
  ·exact⟨rfl,rfl,⟨rfl,rfl⟩,⟨rfl,rfl⟩,⟨rfl,rfl,trivial⟩,rfl,trivial⟩
  ·exact⟨⟨⟨rfl,trivial,trivial⟩,fun _=>rfl⟩,⟨⟨rfl,trivial,trivial⟩,fun _=>rfl⟩,trivial⟩
theorem Zzr (n:Nat):PureOK Tryz.prog Zao 100 [IS (n:Int)] (fun V=>V= .tup [.v .s (Zt5 n).1, .v (.i .i64) (Zt5 n).2]):=by
 refine Zai Zag Tryz.func100 ?_
 refine Xaa rfl ?_
 refine(Zzy n).mono ?_
 rintro _ rfl
 obtain⟨J,U⟩:=Zx2 n
 rw[XaV]at*
 refine Xaa (fun h=> ?_) (fun h=> ?_)
 ·have C:(!Zew (wOf n))=true:=h
  have j:Nat.ble (decDigits n).length 2000=false:=by rw[←J];cases I:Zew (wOf n)<;>simp[I]at C⊢
  simp only[Zt5,j]
  rfl
 ·have C:(!Zew (wOf n))=false:=h
  have j:Nat.ble (decDigits n).length 2000=true:=by rw[←J];cases I:Zew (wOf n)<;>simp[I]at C⊢
  simp only[Zt5,j]
  have R:=U j (decide ((n:Int)<0))
  rw[decide_eq_false (by omega)]at R
  have h4:Zfv false (wOf n)=decDigits n:=by
   rw[R]
   cases decide (n=0)<;>rfl
  show SV.tup [.v .s (Zfv (decide ((n:Int)<0)) (wOf n)), .v (.i .i64) (0:Int)]=_
  rw[decide_eq_false (by omega),h4]
end Go.Proofs.YtapbiodcncnnfaaGreatDoor
