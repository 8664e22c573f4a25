/-
 A line of texts and numbers (the function line of nettext).
-/
import Derived.Test.YtbdkglokkepmfaaDoorPQ
import Derived.Test.YtbdkglokkepmfaaDoorUN
set_option linter.constructorNameAsVariable false
set_option linter.unusedSimpArgs false
set_option linter.unusedVariables false
namespace Go.Proofs.YtbdkglokkepmfaaDoor
open Go.Am Go.Tx Ne
set_option maxRecDepth 100000
inductive Wd where
 |t (s:Txt)
 |n (v:Int)
def Wd.av:Wd→AV
 | .t s=> .s 9 s
 | .n v=> .i 3 .i64 v
def Wd.txt:Wd→Txt
 | .t s=>s
 | .n v=>Go.Lib.itoa v
def Wd.ok:Wd→Prop
 | .t s=>s.length≤1000
 | .n v=> -1000000≤v∧v≤1000000
theorem ZmB (v:Int):Go.Lib.itoa v=Zid v:=by
 unfold Go.Lib.itoa Zid
 by_cases h:v<0
 ·rw[if_pos h,decide_eq_true h];rfl
 ·rw[if_neg h,decide_eq_false h,cond_false]
  rw[show v.toNat=v.natAbs by omega]
theorem ZlX: ∀l:List Txt,ZeV [32] l=Zc4 l
 | []=>rfl
 | [_]=>rfl
 |x::y::r=>by rw[ZeV,Zc4,ZlX (y::r)];rfl
theorem Zug: ∀ {x:Wd},x.ok→x.txt.length≤1000
 | .t _,h=>h
 | .n v,h=>by
  show(Go.Lib.itoa v).length≤1000
  rw[ZmB]
  have:=Zfi h.1 h.2
  omega
def wt (l:List Wd) (i:Nat):List Txt:=(l.take i).map Wd.txt
def zl (l:List Wd) (i:Nat):TM:=[(3, .ref 0 0 (wt l i).length none),(8, .v (.l .any) (l.map Wd.av)),(9,nt (l.map Wd.av).length),(10,nt i)]
set_option maxHeartbeats 16000000 in
theorem Zo7 (l:List Wd) (hl:l.length≤20) (hok: ∀x∈l,x.ok):
 LoopOK Tryd.prog Zax 0 ⟨31,0,33⟩ (ZaX Tryd.f31 3) (zl l 0) [.row .s [] true]
 (fun e tm hp'=>e= .exit 0∧Ent 0 tm hp' [(3, .ref 0 0 (l.map Wd.txt).length none)] [.row .s (l.map Wd.txt) true]):=by
 have hm:(l.map Wd.av).length=l.length:=List.length_map ..
 refine ZaB Zaq rfl (zl l) (fun i=> [.row .s (wt l i) true]) (fun i=>i≤l.length) (fun i=>l.length-i) ?_ 0 (Nat.zero_le _) ZaC
 rintro i hi
 cases h1:decide ((i:Int)<((l.map Wd.av).length:Int))with
 |false=>
  have e:i=l.length:=by have:=of_decide_eq_false h1;omega
  refine Zae ?_
  refine Zaa ?_
  refine Zad ?_
  refine brF h1 ?_
  have ew:wt l i=l.map Wd.txt:=by rw[wt,e,List.take_length]
  refine⟨rfl, ?_⟩
  rw[ew]
  exact Zah ⟨congrArg (fun z=>some (SV.ref 0 0 z none)) (congrArg List.length ew),trivial⟩
 |true=>
  have hlt:i<l.length:=by have:=of_decide_eq_true h1;omega
  have gx:(l.map Wd.av)[(i:Int).toNat]? =some l[i].av:=by rw[Int.toNat_natCast,List.getElem?_map,List.getElem?_eq_getElem hlt];rfl
  have hx:=hok _ (List.getElem_mem hlt)
  have hnext:wt l (i+1)=wt l i++ [l[i].txt]:=by
   rw[wt,List.take_add_one,List.getElem?_eq_getElem hlt,List.map_append];rfl
  have hlen:(wt l i).length≤20:=by rw[wt,List.length_map,List.length_take];omega
  have zC:((wt l i).length+1)*16≤140737488355328:=by omega
  have fin: ∀ (tm:TM) (hp:List SM) (s:Txt),l[i].txt=s→nth hp 2=some (.row .s (wt l i++ [s]) true)→Zck 3 tm=some (.ref 2 0 ((wt l i).length+1) none)→Zck 8 tm=some (.v (.l .any) (l.map Wd.av))→Zck 9 tm=some (nt (l.map Wd.av).length)→Zck 10 tm=some (.v (.i .i64) (IntKind.i64.wrap ((i:Int)+1)))→Ent 0 tm hp (zl l (i+1)) [.row .s (wt l (i+1)) true]:=fun tm hp s es h0 h3 h8 h9 h10=>by
   have e1:(wt l (i+1)).length=(wt l i).length+1:=by rw[hnext,List.length_append];rfl
   refine Zhn (id:=2) (by rw[h0,hnext,es]) rfl ⟨?_,Zbl (by show 0<1;omega),h8,ZaO,h9,ZaO, ?_,ZaO,trivial⟩
   ·rw[h3,e1];rfl
   ·rw[h10,ZaW (by omega)];rfl
  obtain⟨x,ex⟩: ∃x,l[i]=x:=⟨_,rfl⟩
  rw[ex]at gx hx fin
  cases x with
  |n v=>
   have gx:(l.map Wd.av)[(i:Int).toNat]? =some (AV.i 3 .i64 v):=gx
   have hI:=Zt7 v hx.1 hx.2
   refine Zae ?_
   refine Zaa ?_
   refine Zad ?_
   refine brT h1 ?_
   refine Zae ?_
   refine Za5 rfl (fun _=>rfl) (Int.natCast_nonneg i) gx rfl rfl ?_
   iterate 2 refine Zaa ?_
   refine Zad ?_
   refine Zae ?_
   refine Zaa ?_
   refine Zad ?_
   refine Zae ?_
   iterate 3 refine Zaa ?_
   refine Zad ?_
   refine brT rfl ?_
   refine Zae ?_
   refine Zaa ?_
   refine Zad ?_
   refine Zae ?_
   iterate 2 refine Zaa ?_
   refine Zaf rfl ((hI).mono ?_)
   rintro _ rfl
   refine Zab rfl rfl ?_
   refine ZaQ ?_
   refine Zaf rfl (Za8 rfl rfl rfl rfl rfl rfl rfl rfl rfl rfl (Za1 (a:=[.row .s (wt l i) true])) rfl zC ?_)
   refine Zab rfl rfl ?_
   refine Zaa ?_
   refine Zad ?_
   refine Zae ?_
   iterate 2 refine Zaa ?_
   refine Zad ?_
   refine⟨i+1,hlt,by show l.length-(i+1)<l.length-i;omega, ?_⟩
   exact fin _ _ _ rfl rfl rfl rfl rfl rfl
  |t s=>
   have gx:(l.map Wd.av)[(i:Int).toNat]? =some (AV.s 9 s):=gx
   refine Zae ?_
   refine Zaa ?_
   refine Zad ?_
   refine brT h1 ?_
   refine Zae ?_
   refine Za5 rfl (fun _=>rfl) (Int.natCast_nonneg i) gx rfl rfl ?_
   iterate 2 refine Zaa ?_
   refine Zad ?_
   refine Zae ?_
   refine Zaa ?_
   refine Zad ?_
   refine Zae ?_
   iterate 3 refine Zaa ?_
   refine Zad ?_
   refine brF rfl ?_
   refine Zae ?_
   iterate 3 refine Zaa ?_
   refine Zad ?_
   refine brT rfl ?_
   refine Zae ?_
   refine Zaa ?_
   refine Zad ?_
   refine Zae ?_
   iterate 2 refine Zaa ?_
   refine ZaQ ?_
   refine Zaf rfl (Za8 rfl rfl rfl rfl rfl rfl rfl rfl rfl rfl (Za1 (a:=[.row .s (wt l i) true])) rfl zC ?_)
   refine Zab rfl rfl ?_
   refine Zaa ?_
   refine Zad ?_
   refine Zae ?_
   iterate 2 refine Zaa ?_
   refine Zad ?_
   refine⟨i+1,hlt,by show l.length-(i+1)<l.length-i;omega, ?_⟩
   exact fin _ _ _ rfl rfl rfl rfl rfl rfl
set_option maxHeartbeats 16000000 in
theorem Zt2 (l:List Wd) (hn:l≠ []) (hl:l.length≤20) (hok: ∀x∈l,x.ok):PureOK Tryd.prog Zax 31 [.v (.l .any) (l.map Wd.av)] (fun V=>V= .v .s (Zc4 (l.map Wd.txt))):=by
 refine Zav Zaq Tryd.func31 ?_
 have hj:(ZeV [32] (l.map Wd.txt)).length≤1000000:=by
  rw[ZlX]
  have:=Zhp (l:=l.map Wd.txt) (B:=1000) fun w hw=>by
   obtain⟨x,hx,rfl⟩:=List.mem_map.1 hw
   exact Zug (hok x hx)
  rw[List.length_map]at this
  omega
 have hJ:=Zud (l.map Wd.txt) [32] (by cases l with|nil=>exact absurd rfl hn|cons x r=>exact List.cons_ne_nil _ _) hj (by rw[List.length_map];omega)
 have hJ:PureOK Tryd.prog Zax 45 [.v (.l .s) (sub (l.map Wd.txt) 0 (l.map Wd.txt).length), .v .s [32]] (fun V=>V= .v .s (Zc4 (l.map Wd.txt))):=by rw[ZcQ rfl,←ZlX];exact hJ
 refine Zae ?_
 refine Zaa ?_
 refine Zad ?_
 refine Zae ?_
 refine Zaa ?_
 refine Zad ?_
 refine Zae ?_
 iterate 3 refine Zaa ?_
 refine Zad ?_
 refine((Zo7 l hl hok).ent ?_).through ?_
 ·refine Ent.trans (tm1:=[(3, .nils),(8, .v (.l .any) (l.map Wd.av)),(9,nt (l.map Wd.av).length),(10,nt 0)]) (hp1:=[]) (Zah ⟨rfl,rfl,rfl,rfl,trivial⟩) ?_
  refine Zer (k:=3) (Nat.zero_le _) rfl (fun a V ha h=> ?_) rfl
  have hb:Nat.beq a 3=false:=by
   cases hb:Nat.beq a 3 with
   |true=>exact absurd (Nat.eq_of_beq_eq_true hb) ha
   |false=>rfl
  simp only[zl,Zck,hb]at h⊢
  exact h
 rintro _ tm hp' ⟨rfl,hE⟩
 refine⟨_,_,hE, ?_⟩
 show wp _ _ _ _ _ _ _ _ _
 refine Zae ?_
 refine Zaa ?_
 refine Zaf rfl (And.intro (Nat.le_of_eq (Nat.zero_add _)) (hJ.mono ?_))
 rintro _ rfl
 refine Zab rfl rfl ?_
 refine Zaa ?_
 refine Zad ?_
 rfl
end Go.Proofs.YtbdkglokkepmfaaDoor
