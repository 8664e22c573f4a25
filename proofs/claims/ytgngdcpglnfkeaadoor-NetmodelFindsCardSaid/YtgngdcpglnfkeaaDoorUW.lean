/-
 The law NetmodelFinds where the name is that of a device.
-/
import Derived.Test.YtgngdcpglnfkeaaDoorUV
set_option linter.constructorNameAsVariable false
set_option linter.unusedSimpArgs false
set_option linter.unusedVariables false
namespace Go.Proofs.YtgngdcpglnfkeaaDoor
open Go.Am Go.Tx Ne
set_option maxRecDepth 100000
theorem Zuf (s:Txt):Zkd (Za3 s) [110,111,100,101,32]=true:=by
 unfold Zkd Za3
 rw[decide_eq_true (by simp only[List.length_append,List.length_cons,List.length_nil];omega)]
 simp
theorem Zq4 {n:Ne.Net} (hf:Fine n): ∀x∈ZaE n,Zps x:=by
 intro x hx
 rw[Znc]at hx
 rcases List.mem_append.1 hx with hx|hx
 ·obtain⟨y,hy,rfl⟩:=List.mem_map.1 hx
  refine⟨?_, .inl (Zuf y)⟩
  have:=(Za6 hf hy).2
  simp only[Za3,List.length_append,List.length_cons,List.length_nil]
  omega
 ·obtain⟨p,hp,rfl⟩:=List.mem_map.1 hx
  have hd:=ZkK hf p hp
  refine⟨?_, .inr ⟨hd.ascii,hd.fields.1⟩⟩
  obtain⟨_,_,_,_,_,_,_,_,_,hl⟩:=hd.ex
  exact hl
theorem ZqF {n:Ne.Net} (hb:big n=false):(ZaE n).length≤1000:=by
 simp only[big,Bool.or_eq_false_iff,decide_eq_false_iff_not]at hb
 simp only[ZaE,List.length_append,List.length_map,List.length_nil]
 omega
def hL (n:Ne.Net) (s:Txt) (w t:Ne.Net):List SM:=[.cell (Za2 n) true, .cell [.v .s s] true, .cell (Za2 w) true, .row .s t.nodes true, .row Ze6 t.sws true, .row Zfu t.brs true, .row Zje t.gens true, .row ZqO t.loads true, .row Zje t.stores true, .cell (Zkk 3 t) true]
set_option maxHeartbeats 32000000 in
theorem Zh6 (n:Ne.Net) (s:Txt) (b:Bool) (hz:Zbi n) (h:ZcK n=0) (k:Txt) (j g:Nat) (w t:Ne.Net) (eh:Int) (eF:Zb2 n s=(k,(j:Int),0)) (eN:Zec n s=(0,6)) (eO:Zd7 n s=(k,(j:Int)))
 (hs:s.length≤1000) (k1:(k==[])=false) (k2:(k==kNo)=false)
 (hW:PureOK Tryd.prog Zaw 7 [.agg (Za2 n), .v .s s] (fun V=>V= .tup [.agg (Za2 w), .v (.i .i64) 0]))
 (hS:ImpOK Tryd.prog Zaw 8 [.agg (Za2 n), .v .s s, .v .b b] (fun V hp sf=>V= .tup [.agg (Zkk 0 t), .v (.i .i64) eh]∧hp=ZkU t∧sf=true))
 (hw1:big w=false) (hw2:Zi9 w) (hg:ZlQ (Zby s) (ZaE n) 0=(g:Int)) (hgl:g<(ZaE n).length) (hwl:ZaE w=(ZaE n).eraseIdx g)
 (hfin:((k==kSw)=true∧eh=0∧ ∃x,n.sws[j]? =some x∧t=ZkI n j x b)∨((k==kSw)=false∧eh=1∧t=Zfq)):
 PureOK Tryd.prog Zaw 3 [.agg (Za2 n), .v .s s, .v .b b] (fun V=>V= .v .b true):=by
 refine Zau Zao Tryd.func3 ?_
 have hfine:=Zpz h
 have hF:=Zdg n s hz
 have hN:=ZnE n s hz
 have hE:=ZeJ n
 have hO:=Zmd n s (Zf2 h)
 have hLn:=Zgm n (Zf2 h) (ZsD hfine)
 have hLw:=Zgm w hw1 hw2
 have hll:=ZqF (Zf2 h)
 have hok:=Zq4 hfine
 rw[eF]at hF
 rw[eN]at hN
 rw[eO]at hO
 rw[h]at hE
 have hf:=Znp
 have hIj':=neI (j:Int)
 have hKk':=neS k
 have hX:=ZvI (hL n s w t) 1 s (ZaE n) hll rfl hs hok
 rw[hg]at hX
 have hCl:=ZuF (ZaE n) hll
 have hD:=Zvm (hL n s w t++ [.row .s (ZaE n) true]) 10 (ZaE n) g hgl hll rfl
 rw[show nt (g+1)=SV.v (.i .i64) (IntKind.i64.wrap ((g:Int)+1))from congrArg (fun z=>SV.v (.i .i64) z) (Za7 (by omega)).symm]at hD
 have hg0:decide ((g:Int)<0)=false:=decide_eq_false (by omega)
 refine Zae ?_
 refine ZaR ?_
 refine ZaR ?_
 refine Zab ?_
 refine Zaf ?_
 refine Zae ?_
 refine Zac rfl ((hf).mono ?_)
 rintro _ rfl
 refine Zaa rfl rfl ?_
 refine Zab ?_
 refine Zaf ?_
 refine brF rfl ?_
 refine ZaJ ?_
 refine Zae ?_
 refine Zag rfl (fun _=>rfl) rfl rfl rfl ?_
 refine Zag rfl (fun _=>rfl) rfl rfl rfl ?_
 refine Zac rfl ((hF).mono ?_)
 rintro _ rfl
 refine Zaa rfl rfl ?_
 iterate 7 refine Zab ?_
 refine Zaf ?_
 refine Zae ?_
 refine Zag rfl (fun _=>rfl) rfl rfl rfl ?_
 refine Zag rfl (fun _=>rfl) rfl rfl rfl ?_
 refine Zac rfl ((hN).mono ?_)
 rintro _ rfl
 refine Zaa rfl rfl ?_
 iterate 5 refine Zab ?_
 refine Zaf ?_
 refine Zae ?_
 refine Zag rfl (fun _=>rfl) rfl rfl rfl ?_
 refine Zag rfl (fun _=>rfl) rfl rfl rfl ?_
 refine Zac rfl ((hW).mono ?_)
 rintro _ rfl
 refine Zaa rfl rfl ?_
 iterate 3 refine Zab ?_
 refine ZaR ?_
 refine Zac rfl (And.intro rfl ?_)
 refine Zar rfl ?_
 refine ZcS (hp':=[.cell (Za2 n) true, .cell [.v .s s] true, .cell (Za2 w) true]) rfl ?_
 refine Zab ?_
 refine Zaf ?_
 refine Zae ?_
 refine Zag rfl (fun _=>rfl) rfl rfl rfl ?_
 refine Zag rfl (fun _=>rfl) rfl rfl rfl ?_
 refine Zab ?_
 refine Zac rfl ((hS.mono ?_))
 rintro _ _ _ ⟨rfl,rfl,rfl⟩
 refine Zaa rfl rfl ?_
 iterate 3 refine Zab ?_
 refine ZaR ?_
 refine Zac rfl (And.intro rfl ?_)
 refine Zar rfl ?_
 refine ZcS (hp':=hL n s w t) rfl ?_
 refine Zab ?_
 refine Zaf ?_
 refine Zae ?_
 refine Zab ?_
 refine Zaf ?_
 refine Zae ?_
 refine Zag rfl (fun _=>rfl) rfl rfl rfl ?_
 refine Zac rfl ((hE).mono ?_)
 rintro _ rfl
 refine Zaa rfl rfl ?_
 refine Zab ?_
 refine Zaf ?_
 refine Zae ?_
 iterate 2 refine Zab ?_
 refine Zaf ?_
 refine brF rfl ?_
 refine ZaJ ?_
 refine Zae ?_
 refine Zag rfl (fun _=>rfl) rfl rfl rfl ?_
 refine Zag rfl (fun _=>rfl) rfl rfl rfl ?_
 refine Zac rfl ((hO).mono ?_)
 rintro _ rfl
 refine Zaa rfl rfl ?_
 iterate 5 refine Zab ?_
 refine Zaf ?_
 refine Zae ?_
 iterate 2 refine Zab ?_
 refine Zaf ?_
 refine And.intro (fun h'=>by first|(cases h';done)|exact(nf h' k1).elim) (fun _=> ?_)
 refine ZaJ ?_
 refine Zae ?_
 iterate 3 refine Zab ?_
 refine Zad rfl ?_
 refine Zad rfl ?_
 refine Zad rfl ?_
 refine Zas rfl ?_
 refine Zab ?_
 refine Zad hKk' ?_
 refine Zad hKk' ?_
 refine Zad hKk' ?_
 refine Zas hKk' ?_
 refine Zaf ?_
 refine And.intro (fun h'=>by first|(cases h';done)|exact(nf h' hIj').elim) (fun _=> ?_)
 refine ZaJ ?_
 refine Zae ?_
 iterate 2 refine Zab ?_
 refine Zaf ?_
 refine And.intro (fun h'=>by first|(cases h';done)|exact(nf h' k2).elim) (fun _=> ?_)
 refine ZaJ ?_
 refine Zae ?_
 iterate 3 refine Zab ?_
 refine Zad rfl ?_
 refine Zad rfl ?_
 refine Zas rfl ?_
 refine Zaf ?_
 refine brF rfl ?_
 refine ZaJ ?_
 refine Zae ?_
 refine Zag rfl (fun _=>rfl) rfl rfl rfl ?_
 refine Zac rfl ((hLn).mono ?_)
 rintro _ rfl
 refine Zaa rfl rfl ?_
 refine Zab ?_
 refine Zaf ?_
 refine Zae ?_
 iterate 2 refine Zab ?_
 refine Zac rfl ((hX.mono ?_))
 rintro _ _ ⟨rfl,rfl⟩
 refine Zaa rfl rfl ?_
 refine Zab ?_
 refine Zaf ?_
 have hEq: ∀l':List Txt,l'.length=(ZaE n).length→sub l' 0 (g+((ZaE n).length-(g+1)))=(ZaE n).eraseIdx g→PureOK Tryd.prog Zaw 18 [.v (.l .s) (ZaE w), .v (.l .s) (sub l' 0 (g+((ZaE n).length-(g+1))))] (fun V=>V= .v .b true):=fun l' _ h2=>by
  rw[h2,←hwl]
  refine(ZpN _ _ ?_).mono ?_
  ·rw[hwl,List.length_eraseIdx];split<;>omega
  ·rintro _ rfl;rw[decide_eq_true rfl]
 have hls: ∀l':List Txt,l'.length=(ZaE n).length→0+(g+((ZaE n).length-(g+1)))≤l'.length:=fun l' h1=>by omega
 refine Zae ?_
 iterate 3 refine Zab ?_
 refine Zad hg0 ?_
 refine Zad hg0 ?_
 refine Zas hg0 ?_
 refine Zab ?_
 refine Zak rfl rfl rfl rfl (fun _=>rfl) rfl rfl rfl ?_
 refine Zam rfl rfl rfl rfl ((hLw).mono ?_)
 rintro _ rfl
 refine Zaa rfl rfl ?_
 refine Zad rfl ?_
 refine Zam rfl rfl rfl rfl ((hCl.mono ?_))
 rintro _ _ _ ⟨rfl,rfl,rfl⟩
 refine Zaa rfl rfl ?_
 refine ZcS (hp':=hL n s w t++ [.row .s (ZaE n) true]) rfl ?_
 refine Zad rfl ?_
 refine Zad rfl ?_
 refine Zad rfl ?_
 refine Zam rfl rfl rfl rfl ((hD.mono ?_))
 rintro _ hp' ⟨rfl,l',rfl,hl',hs'⟩
 refine Zaa rfl rfl ?_
 refine Zam rfl rfl rfl rfl (⟨hls l' hl',((hEq l' hl' hs').mono ?_)⟩)
 rintro _ rfl
 refine Zaa rfl rfl ?_
 refine Zad rfl ?_
 refine Zas rfl ?_
 refine Zaf ?_
 refine brF rfl ?_
 refine ZaJ ?_
 rcases hfin with⟨h5,rfl,x,hx,rfl⟩|⟨h5,rfl,rfl⟩
 ·have h6:(!(k==kSw))=false:=by rw[h5];rfl
  have hj:j<n.sws.length:=(List.getElem?_eq_some_iff.1 hx).1
  have el:(ZkI n j x b).sws.length=n.sws.length:=List.length_set ..
  have c1:(!decide (((ZkI n j x b).sws.length:Int)=(n.sws.length:Int)))=false:=by rw[el];exact neI _
  have ci:(0:Int)≤(j:Int)∧(j:Int)<(((ZkI n j x b).sws.length:Nat):Int):=by rw[el];exact cin hj
  have gx:(ZkI n j x b).sws[0+(j:Int).toNat]? =some (x.1,x.2.1,x.2.2.1,x.2.2.2.1,b):=by
   rw[Int.toNat_natCast,Nat.zero_add]
   show(n.sws.set j _)[j]? =_
   rw[List.getElem?_set_self hj]
  have gn:n.sws[(j:Int).toNat]? =some x:=by rw[Int.toNat_natCast];exact hx
  have hb':(!(b==b))=false:=by cases b<;>rfl
  have er:sub ((ZkI n j x b).sws.set (0+(j:Int).toNat) (x.1,x.2.1,x.2.2.1,x.2.2.2.1,x.2.2.2.2)) 0 (ZkI n j x b).sws.length=n.sws:=by
   rw[Zbn (by rw[List.length_set]),Int.toNat_natCast,Nat.zero_add]
   show(n.sws.set j _).set j x=_
   rw[List.set_set]
   obtain⟨hj',rfl⟩:=List.getElem?_eq_some_iff.1 hx
   exact List.set_getElem_self hj'
  have zk: ∀q:Nat,0+q≤q:=fun q=>by omega
  have zs:0+(ZkI n j x b).sws.length≤((ZkI n j x b).sws.set (0+(j:Int).toNat) (x.1,x.2.1,x.2.2.1,x.2.2.2.1,x.2.2.2.2)).length:=by rw[List.length_set];omega
  have hLs:PureOK Tryd.prog Zaw 10 [.agg [.v (.l .s) (sub n.nodes 0 n.nodes.length), .v (.l Ze6) (sub ((ZkI n j x b).sws.set (0+(j:Int).toNat) (x.1,x.2.1,x.2.2.1,x.2.2.2.1,x.2.2.2.2)) 0 (ZkI n j x b).sws.length), .v (.l Zfu) (sub n.brs 0 n.brs.length), .v (.l Zje) (sub n.gens 0 n.gens.length), .v (.l ZqO) (sub n.loads 0 n.loads.length), .v (.l Zje) (sub n.stores 0 n.stores.length)]] (fun V=>V= .v (.l .s) (ZaE n)):=by
   rw[er,Zbn rfl,Zbn rfl,Zbn rfl,Zbn rfl,Zbn rfl]
   exact hLn
  have hEL:PureOK Tryd.prog Zaw 18 [.v (.l .s) (ZaE n), .v (.l .s) (ZaE n)] (fun V=>V= .v .b true):=by
   refine(ZpN _ _ hll).mono ?_
   rintro _ rfl;rw[decide_eq_true rfl]
  refine Zae ?_
  iterate 2 refine Zab ?_
  refine Zaf ?_
  refine And.intro (fun h'=>by first|(cases h';done)|exact(nf h' h6).elim) (fun _=> ?_)
  refine ZaJ ?_
  refine Zae ?_
  iterate 3 refine Zab ?_
  refine Zad rfl ?_
  refine Zak rfl rfl rfl rfl (fun _=>rfl) rfl rfl rfl ?_
  refine Zad rfl ?_
  refine Zad rfl ?_
  refine Zak rfl rfl rfl rfl (fun _=>rfl) rfl rfl rfl ?_
  refine Zad rfl ?_
  refine Zad rfl ?_
  refine Zas rfl ?_
  refine Zab ?_
  refine Zad c1 ?_
  refine Zak rfl rfl rfl c1 (fun _=>rfl) rfl rfl rfl ?_
  refine Zad c1 ?_
  refine Zak rfl rfl rfl c1 (fun _=>rfl) ci rfl rfl ?_
  refine Zad c1 ?_
  refine ZuK rfl rfl rfl c1 (fun _=>rfl) gx rfl rfl ?_
  refine Zad c1 ?_
  refine Zad c1 ?_
  refine Zas c1 ?_
  refine Zaf ?_
  refine And.intro (fun h'=>by first|(cases h';done)|exact(nf h' hb').elim) (fun _=> ?_)
  refine ZaJ ?_
  refine Zae ?_
  refine Zab ?_
  refine Zag rfl (fun _=>rfl) rfl rfl rfl ?_
  iterate 2 refine Zab ?_
  refine Zag rfl (fun _=>rfl) rfl rfl rfl ?_
  refine Zab ?_
  refine Zbb rfl (fun _=>rfl) (Int.natCast_nonneg j) gn rfl rfl ?_
  iterate 2 refine Zab ?_
  refine Zag rfl (fun _=>rfl) ci rfl rfl ?_
  refine Zab ?_
  refine Zac rfl (⟨_,gx, ?_⟩)
  refine Zar rfl ?_
  refine Zaf ?_
  refine Zae ?_
  refine Zag rfl (fun _=>rfl) rfl rfl rfl ?_
  refine Zac rfl (⟨zk _,zs,zk _,zk _,zk _,zk _,(hLs.mono ?_)⟩)
  rintro _ rfl
  refine Zaa rfl rfl ?_
  refine Zab ?_
  refine Zac rfl ((hEL).mono ?_)
  rintro _ rfl
  refine Zaa rfl rfl ?_
  refine Zab ?_
  refine Zaf ?_
  rfl
 ·have h6:(!(k==kSw))=true:=by rw[h5];rfl
  refine Zae ?_
  iterate 2 refine Zab ?_
  refine Zaf ?_
  refine And.intro (fun _=> ?_) (fun h'=>by first|(cases h';done)|exact(nf h6 h').elim)
  refine Zae ?_
  iterate 3 refine Zab ?_
  refine Zad rfl ?_
  refine Zak rfl rfl rfl rfl (fun _=>rfl) rfl rfl rfl ?_
  refine Zam rfl rfl rfl rfl (⟨z00,z00,z00,z00,z00,z00,(ZlO.mono ?_)⟩)
  rintro _ rfl
  refine Zaa rfl rfl ?_
  refine Zat rfl ?_
  refine Zab ?_
  refine Zaf ?_
  rfl
end Go.Proofs.YtgngdcpglnfkeaaDoor
