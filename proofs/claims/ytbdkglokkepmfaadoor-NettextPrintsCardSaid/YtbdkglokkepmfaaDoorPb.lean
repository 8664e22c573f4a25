/-
 The loops of nettext's lines. (Printed by tools/genpl.py.)
-/
import Derived.Test.YtbdkglokkepmfaaDoorPa
import Derived.Test.YtbdkglokkepmfaaDoorUO
set_option linter.constructorNameAsVariable false
set_option linter.unusedSimpArgs false
set_option linter.unusedVariables false
namespace Go.Proofs.YtbdkglokkepmfaaDoor
open Go.Am Go.Tx Ne
set_option maxRecDepth 100000
def wds (ws:List Txt) (vs:List Int):List Wd:=ws.map Wd.t++vs.map Wd.n
theorem ZiP (ws:List Txt) (vs:List Int) (hn:ws≠ []) (hl:ws.length+vs.length≤20) (hf:ZnG ws vs):PureOK Tryd.prog Zax 31 [.v (.l .any) ((wds ws vs).map Wd.av)] (fun V=>V= .v .s (ZhJ ws vs)):=by
 have h:=Zt2 (wds ws vs) (by cases ws with|nil=>exact absurd rfl hn|cons w r=>exact List.cons_ne_nil _ _) (by simp only[wds,List.length_append,List.length_map];exact hl) (fun x hx=>by
  rcases List.mem_append.1 hx with hx|hx
  ·obtain⟨w,hw,rfl⟩:=List.mem_map.1 hx;exact hf.1 w hw
  ·obtain⟨v,hv,rfl⟩:=List.mem_map.1 hx;exact hf.2 v hv)
 have e:Zc4 ((wds ws vs).map Wd.txt)=ZhJ ws vs:=by
  rw[ZbY hn,wds,List.map_append,List.map_map,List.map_map]
  congr 2
  ·exact List.map_id ws
  ·exact List.map_congr_left fun v _=>ZmB v
 rw[e]at h
 exact h
def pM (A:List SV) (acc:List Txt):List SM:=[.cell A true, .row .s acc true]
theorem ZdH {A:List SV} {acc acc':List Txt} {hp:List SM} {k:Nat} {tm tm':TM} (hr:rchL A=[]) (hk:k≠0) (h0:nth hp 0=some (.cell A true)) (h1:nth hp k=some (.row .s acc' true)) (e:acc=acc') (htm:ZpL (fun j=> [0,k].getD j 0) 2 tm tm'):Ent 0 tm hp tm' (pM A acc):=by
 subst e
 exact ZgU [0,k] ⟨h0,hr,h1,rfl,trivial⟩ (by simp;omega) htm
theorem Zb2 {k:Nat} {ac ac':List Txt} {x:Txt} (e:ac'=ac++ [x]):some (SV.ref k 0 (ac.length+1) none)=some (SV.ref k 0 ac'.length none):=by
 rw[e,List.length_append];rfl
theorem Zsx (x:Txt) (hx:x.length≤1000):PureOK Tryd.prog Zax 31 [.v (.l .any) ((wds [[110,111,100,101],x] []).map Wd.av)] (fun V=>V= .v .s (ZaY x)):=by
 have h:=ZiP [[110,111,100,101],x] [] (List.cons_ne_nil _ _) (Nat.le_of_ble_eq_true rfl) ⟨fun w hw=>by
  rcases List.mem_cons.1 hw with rfl|hw
  ·decide
  ·rw[List.mem_singleton.1 hw];exact hx,fun v hv=>absurd hv List.not_mem_nil⟩
 rw[ZbY (List.cons_ne_nil _ _)]at h
 exact h
def Zu2 (l:List Txt) (k i:Nat):TM:=[(1, .ptr 0 0 0),(3, .ref 1 0 k none),(19, .v (.l .s) l),(20,nt l.length),(21,nt i)]
set_option maxHeartbeats 16000000 in
theorem ZqG (netc:List SV) (out:List Txt) (l:List Txt) (hr:rchL netc=[]) (ho:out.length≤500) (hl:l.length≤100) (hf: ∀x∈l,x.length≤1000):
 LoopOK Tryd.prog Zax 0 ⟨14,0,187⟩ (ZaX Tryd.f14 3) (Zu2 l out.length 0) (pM netc out)
 (fun e tm hp'=>e= .exit 0∧Ent 0 tm hp' [(1, .ptr 0 0 0),(3, .ref 1 0 (out++l.map ZaY).length none)] (pM netc (out++l.map ZaY))):=by
 refine ZaB Zaq rfl (fun i=>Zu2 l (out++(l.take i).map ZaY).length i) (fun i=>pM netc (out++(l.take i).map ZaY)) (fun i=>i≤l.length) (fun i=>l.length-i) ?_ 0 (Nat.zero_le _) ?_
 case refine_2=>
  have e0:out++(l.take 0).map ZaY=out:=by rw[List.take_zero,List.map_nil,List.append_nil]
  rw[e0];exact ZaC
 rintro i hi
 cases h1:decide ((i:Int)<(l.length:Int))with
 |false=>
  have e:i=l.length:=by have:=of_decide_eq_false h1;omega
  refine Zae ?_
  refine Zaa ?_
  refine Zad ?_
  refine brF h1 ?_
  refine⟨rfl, ?_⟩
  rw[e,List.take_length]
  exact Zah ⟨rfl,rfl,trivial⟩
 |true=>
  have hlt:i<l.length:=by have:=of_decide_eq_true h1;omega
  have gx:l[(i:Int).toNat]? =some l[i]:=by rw[Int.toNat_natCast];exact List.getElem?_eq_getElem hlt
  have hx:=hf _ (List.getElem_mem hlt)
  have hnext:out++(l.take (i+1)).map ZaY=(out++(l.take i).map ZaY)++ [ZaY l[i]]:=by
   rw[List.take_add_one,List.getElem?_eq_getElem hlt,List.map_append,List.append_assoc];rfl
  have hlen:(out++(l.take i).map ZaY).length≤1000:=by rw[List.length_append,List.length_map,List.length_take];omega
  obtain⟨x,ex⟩: ∃x,l[i]=x:=⟨_,rfl⟩
  obtain⟨ac,ea⟩: ∃ac,out++(l.take i).map ZaY=ac:=⟨_,rfl⟩
  rw[ex]at gx hnext hx
  rw[ea]at hlen hnext
  rw[ea]
  have zC:(ac.length+1)*16≤140737488355328:=by omega
  refine Zae ?_
  refine Zaa ?_
  refine Zad ?_
  refine brT h1 ?_
  have hL:PureOK Tryd.prog Zax 31 [.v (.l .any) ((wds [[110,111,100,101],x] []).map Wd.av)] (fun V=>V= .v .s (ZaY x)):=Zsx x hx
  refine Zae ?_
  refine Za5 rfl (fun _=>rfl) (Int.natCast_nonneg i) gx rfl rfl ?_
  iterate 2 refine Zaa ?_
  refine Zad ?_
  refine Zae ?_
  iterate 4 refine Zaa ?_
  refine ZaQ ?_
  refine Zaf rfl (And.intro (show 0+2≤2 by decide) ((hL).mono ?_))
  rintro _ rfl
  refine Zab rfl rfl ?_
  refine ZaQ ?_
  refine Zaf rfl (Za8 rfl rfl rfl rfl rfl rfl rfl rfl rfl rfl (Za1 (a:=[.cell netc true, .row .s ac true, .row .any [.s 9 [110,111,100,101], .s 9 x] true])) rfl zC ?_)
  refine Zab rfl rfl ?_
  refine Zaa ?_
  refine Zad ?_
  refine Zae ?_
  iterate 2 refine Zaa ?_
  refine Zad ?_
  refine⟨i+1,hlt,by show l.length-(i+1)<l.length-i;omega, ?_⟩
  exact ZdH hr (Nat.succ_ne_zero _) rfl rfl hnext ⟨rfl,ZaD (by show 0<2;omega),Zb2 hnext,Zbl (by show 1<2;omega),rfl,ZaO,rfl,ZaO,congrArg (fun x=>some (SV.v (.i .i64) x)) (ZaW (by omega)),ZaO,trivial⟩
theorem Zs5 (x:Sw) (h:x.1.length≤1000∧x.2.1.length≤1000∧x.2.2.1.length≤1000):PureOK Tryd.prog Zax 31 [.v (.l .any) ((wds [bif x.2.2.2.1 then[98,114,101,97,107,101,114]else[115,119,105,116,99,104],x.1,x.2.1,x.2.2.1,bif x.2.2.2.2 then[111,112,101,110]else[99,108,111,115,101,100]] []).map Wd.av)] (fun V=>V= .v .s (ZaZ x)):=by
 have g:=ZiP [bif x.2.2.2.1 then[98,114,101,97,107,101,114]else[115,119,105,116,99,104],x.1,x.2.1,x.2.2.1,bif x.2.2.2.2 then[111,112,101,110]else[99,108,111,115,101,100]] [] (List.cons_ne_nil _ _) (Nat.le_of_ble_eq_true rfl) ⟨fun w hw=>by
  simp only[List.mem_cons,List.not_mem_nil,or_false]at hw
  rcases hw with rfl|rfl|rfl|rfl|rfl
  ·cases x.2.2.2.1<;>decide
  ·exact h.1
  ·exact h.2.1
  ·exact h.2.2
  ·cases x.2.2.2.2<;>decide,fun v hv=>absurd hv List.not_mem_nil⟩
 rw[ZbY (List.cons_ne_nil _ _)]at g
 rw[Zhk]
 exact g
def Zvo (l:List Sw) (k i:Nat):TM:=[(1, .ptr 0 0 0),(3, .ref 1 0 k none),(35, .v (.l ZqV) l),(36,nt l.length),(37,nt i)]
set_option maxHeartbeats 16000000 in
theorem ZqP (netc:List SV) (out:List Txt) (l:List Sw) (hr:rchL netc=[]) (ho:out.length≤500) (hl:l.length≤100) (hf: ∀x∈l,x.1.length≤1000∧x.2.1.length≤1000∧x.2.2.1.length≤1000):
 LoopOK Tryd.prog Zax 0 ⟨14,0,187⟩ (ZaX Tryd.f14 8) (Zvo l out.length 0) (pM netc out)
 (fun e tm hp'=>e= .exit 2∧Ent 0 tm hp' [(1, .ptr 0 0 0),(3, .ref 1 0 (out++l.map ZaZ).length none)] (pM netc (out++l.map ZaZ))):=by
 refine ZaB Zaq rfl (fun i=>Zvo l (out++(l.take i).map ZaZ).length i) (fun i=>pM netc (out++(l.take i).map ZaZ)) (fun i=>i≤l.length) (fun i=>l.length-i) ?_ 0 (Nat.zero_le _) ?_
 case refine_2=>
  have e0:out++(l.take 0).map ZaZ=out:=by rw[List.take_zero,List.map_nil,List.append_nil]
  rw[e0];exact ZaC
 rintro i hi
 cases h1:decide ((i:Int)<(l.length:Int))with
 |false=>
  have e:i=l.length:=by have:=of_decide_eq_false h1;omega
  refine Zae ?_
  refine Zaa ?_
  refine Zad ?_
  refine brF h1 ?_
  refine⟨rfl, ?_⟩
  rw[e,List.take_length]
  exact Zah ⟨rfl,rfl,trivial⟩
 |true=>
  have hlt:i<l.length:=by have:=of_decide_eq_true h1;omega
  have gx:l[(i:Int).toNat]? =some l[i]:=by rw[Int.toNat_natCast];exact List.getElem?_eq_getElem hlt
  have hx:=hf _ (List.getElem_mem hlt)
  have hnext:out++(l.take (i+1)).map ZaZ=(out++(l.take i).map ZaZ)++ [ZaZ l[i]]:=by
   rw[List.take_add_one,List.getElem?_eq_getElem hlt,List.map_append,List.append_assoc];rfl
  have hlen:(out++(l.take i).map ZaZ).length≤1000:=by rw[List.length_append,List.length_map,List.length_take];omega
  obtain⟨x,ex⟩: ∃x,l[i]=x:=⟨_,rfl⟩
  obtain⟨ac,ea⟩: ∃ac,out++(l.take i).map ZaZ=ac:=⟨_,rfl⟩
  rw[ex]at gx hnext hx
  rw[ea]at hlen hnext
  rw[ea]
  have zC:(ac.length+1)*16≤140737488355328:=by omega
  refine Zae ?_
  refine Zaa ?_
  refine Zad ?_
  refine brT h1 ?_
  obtain⟨nm,a,b,br,op⟩:=x
  have hL:=Zs5 (nm,a,b,br,op) hx
  cases br<;>cases op
  ·have hi_:=hi
   refine Zae ?_
   refine Za5 rfl (fun _=>rfl) (Int.natCast_nonneg i) gx rfl rfl ?_
   refine Zaa ?_
   refine ZaQ ?_
   refine Zaf rfl (Zar rfl rfl rfl rfl rfl rfl rfl rfl ?_)
   refine Zaw rfl ?_
   refine Zad ?_
   refine Zae ?_
   iterate 2 refine Zaa ?_
   refine Zad ?_
   refine Zae ?_
   refine Zaa ?_
   refine Zag rfl (fun _=>rfl) rfl rfl rfl ?_
   refine Zad ?_
   refine brF rfl ?_
   refine Zae ?_
   refine Zaa ?_
   refine Zag rfl (fun _=>rfl) rfl rfl rfl ?_
   refine Zad ?_
   refine brF rfl ?_
   refine Zae ?_
   iterate 4 refine Zaa ?_
   refine Zag rfl (fun _=>rfl) rfl rfl rfl ?_
   iterate 2 refine Zaa ?_
   refine Zag rfl (fun _=>rfl) rfl rfl rfl ?_
   iterate 2 refine Zaa ?_
   refine Zag rfl (fun _=>rfl) rfl rfl rfl ?_
   iterate 3 refine Zaa ?_
   refine ZaQ ?_
   refine Zaf rfl (And.intro (show 0+5≤5 by decide) ((hL).mono ?_))
   rintro _ rfl
   refine Zab rfl rfl ?_
   refine ZaQ ?_
   refine Zaf rfl (Za8 rfl rfl rfl rfl rfl rfl rfl rfl rfl rfl (Za1 (a:=[.cell netc true, .row .s ac true, .cell [.v .s nm, .v .s a, .v .s b, .v .b false, .v .b false] true, .row .any [.s 9 [115,119,105,116,99,104], .s 9 nm, .s 9 a, .s 9 b, .s 9 [99,108,111,115,101,100]] true])) rfl zC ?_)
   refine Zab rfl rfl ?_
   refine Zaa ?_
   refine Zad ?_
   refine Zae ?_
   iterate 2 refine Zaa ?_
   refine Zad ?_
   refine⟨i+1,hlt,by show l.length-(i+1)<l.length-i;omega, ?_⟩
   exact ZdH hr (Nat.succ_ne_zero _) rfl rfl hnext ⟨rfl,ZaD (by show 0<2;omega),Zb2 hnext,Zbl (by show 1<2;omega),rfl,ZaO,rfl,ZaO,congrArg (fun x=>some (SV.v (.i .i64) x)) (ZaW (by omega)),ZaO,trivial⟩
  ·have hi_:=hi
   refine Zae ?_
   refine Za5 rfl (fun _=>rfl) (Int.natCast_nonneg i) gx rfl rfl ?_
   refine Zaa ?_
   refine ZaQ ?_
   refine Zaf rfl (Zar rfl rfl rfl rfl rfl rfl rfl rfl ?_)
   refine Zaw rfl ?_
   refine Zad ?_
   refine Zae ?_
   iterate 2 refine Zaa ?_
   refine Zad ?_
   refine Zae ?_
   refine Zaa ?_
   refine Zag rfl (fun _=>rfl) rfl rfl rfl ?_
   refine Zad ?_
   refine brF rfl ?_
   refine Zae ?_
   refine Zaa ?_
   refine Zag rfl (fun _=>rfl) rfl rfl rfl ?_
   refine Zad ?_
   refine brT rfl ?_
   refine Zae ?_
   refine Zaa ?_
   refine Zad ?_
   refine Zae ?_
   iterate 4 refine Zaa ?_
   refine Zag rfl (fun _=>rfl) rfl rfl rfl ?_
   iterate 2 refine Zaa ?_
   refine Zag rfl (fun _=>rfl) rfl rfl rfl ?_
   iterate 2 refine Zaa ?_
   refine Zag rfl (fun _=>rfl) rfl rfl rfl ?_
   iterate 3 refine Zaa ?_
   refine ZaQ ?_
   refine Zaf rfl (And.intro (show 0+5≤5 by decide) ((hL).mono ?_))
   rintro _ rfl
   refine Zab rfl rfl ?_
   refine ZaQ ?_
   refine Zaf rfl (Za8 rfl rfl rfl rfl rfl rfl rfl rfl rfl rfl (Za1 (a:=[.cell netc true, .row .s ac true, .cell [.v .s nm, .v .s a, .v .s b, .v .b false, .v .b true] true, .row .any [.s 9 [115,119,105,116,99,104], .s 9 nm, .s 9 a, .s 9 b, .s 9 [111,112,101,110]] true])) rfl zC ?_)
   refine Zab rfl rfl ?_
   refine Zaa ?_
   refine Zad ?_
   refine Zae ?_
   iterate 2 refine Zaa ?_
   refine Zad ?_
   refine⟨i+1,hlt,by show l.length-(i+1)<l.length-i;omega, ?_⟩
   exact ZdH hr (Nat.succ_ne_zero _) rfl rfl hnext ⟨rfl,ZaD (by show 0<2;omega),Zb2 hnext,Zbl (by show 1<2;omega),rfl,ZaO,rfl,ZaO,congrArg (fun x=>some (SV.v (.i .i64) x)) (ZaW (by omega)),ZaO,trivial⟩
  ·have hi_:=hi
   refine Zae ?_
   refine Za5 rfl (fun _=>rfl) (Int.natCast_nonneg i) gx rfl rfl ?_
   refine Zaa ?_
   refine ZaQ ?_
   refine Zaf rfl (Zar rfl rfl rfl rfl rfl rfl rfl rfl ?_)
   refine Zaw rfl ?_
   refine Zad ?_
   refine Zae ?_
   iterate 2 refine Zaa ?_
   refine Zad ?_
   refine Zae ?_
   refine Zaa ?_
   refine Zag rfl (fun _=>rfl) rfl rfl rfl ?_
   refine Zad ?_
   refine brT rfl ?_
   refine Zae ?_
   refine Zaa ?_
   refine Zad ?_
   refine Zae ?_
   refine Zaa ?_
   refine Zag rfl (fun _=>rfl) rfl rfl rfl ?_
   refine Zad ?_
   refine brF rfl ?_
   refine Zae ?_
   iterate 4 refine Zaa ?_
   refine Zag rfl (fun _=>rfl) rfl rfl rfl ?_
   iterate 2 refine Zaa ?_
   refine Zag rfl (fun _=>rfl) rfl rfl rfl ?_
   iterate 2 refine Zaa ?_
   refine Zag rfl (fun _=>rfl) rfl rfl rfl ?_
   iterate 3 refine Zaa ?_
   refine ZaQ ?_
   refine Zaf rfl (And.intro (show 0+5≤5 by decide) ((hL).mono ?_))
   rintro _ rfl
   refine Zab rfl rfl ?_
   refine ZaQ ?_
   refine Zaf rfl (Za8 rfl rfl rfl rfl rfl rfl rfl rfl rfl rfl (Za1 (a:=[.cell netc true, .row .s ac true, .cell [.v .s nm, .v .s a, .v .s b, .v .b true, .v .b false] true, .row .any [.s 9 [98,114,101,97,107,101,114], .s 9 nm, .s 9 a, .s 9 b, .s 9 [99,108,111,115,101,100]] true])) rfl zC ?_)
   refine Zab rfl rfl ?_
   refine Zaa ?_
   refine Zad ?_
   refine Zae ?_
   iterate 2 refine Zaa ?_
   refine Zad ?_
   refine⟨i+1,hlt,by show l.length-(i+1)<l.length-i;omega, ?_⟩
   exact ZdH hr (Nat.succ_ne_zero _) rfl rfl hnext ⟨rfl,ZaD (by show 0<2;omega),Zb2 hnext,Zbl (by show 1<2;omega),rfl,ZaO,rfl,ZaO,congrArg (fun x=>some (SV.v (.i .i64) x)) (ZaW (by omega)),ZaO,trivial⟩
  ·have hi_:=hi
   refine Zae ?_
   refine Za5 rfl (fun _=>rfl) (Int.natCast_nonneg i) gx rfl rfl ?_
   refine Zaa ?_
   refine ZaQ ?_
   refine Zaf rfl (Zar rfl rfl rfl rfl rfl rfl rfl rfl ?_)
   refine Zaw rfl ?_
   refine Zad ?_
   refine Zae ?_
   iterate 2 refine Zaa ?_
   refine Zad ?_
   refine Zae ?_
   refine Zaa ?_
   refine Zag rfl (fun _=>rfl) rfl rfl rfl ?_
   refine Zad ?_
   refine brT rfl ?_
   refine Zae ?_
   refine Zaa ?_
   refine Zad ?_
   refine Zae ?_
   refine Zaa ?_
   refine Zag rfl (fun _=>rfl) rfl rfl rfl ?_
   refine Zad ?_
   refine brT rfl ?_
   refine Zae ?_
   refine Zaa ?_
   refine Zad ?_
   refine Zae ?_
   iterate 4 refine Zaa ?_
   refine Zag rfl (fun _=>rfl) rfl rfl rfl ?_
   iterate 2 refine Zaa ?_
   refine Zag rfl (fun _=>rfl) rfl rfl rfl ?_
   iterate 2 refine Zaa ?_
   refine Zag rfl (fun _=>rfl) rfl rfl rfl ?_
   iterate 3 refine Zaa ?_
   refine ZaQ ?_
   refine Zaf rfl (And.intro (show 0+5≤5 by decide) ((hL).mono ?_))
   rintro _ rfl
   refine Zab rfl rfl ?_
   refine ZaQ ?_
   refine Zaf rfl (Za8 rfl rfl rfl rfl rfl rfl rfl rfl rfl rfl (Za1 (a:=[.cell netc true, .row .s ac true, .cell [.v .s nm, .v .s a, .v .s b, .v .b true, .v .b true] true, .row .any [.s 9 [98,114,101,97,107,101,114], .s 9 nm, .s 9 a, .s 9 b, .s 9 [111,112,101,110]] true])) rfl zC ?_)
   refine Zab rfl rfl ?_
   refine Zaa ?_
   refine Zad ?_
   refine Zae ?_
   iterate 2 refine Zaa ?_
   refine Zad ?_
   refine⟨i+1,hlt,by show l.length-(i+1)<l.length-i;omega, ?_⟩
   exact ZdH hr (Nat.succ_ne_zero _) rfl rfl hnext ⟨rfl,ZaD (by show 0<2;omega),Zb2 hnext,Zbl (by show 1<2;omega),rfl,ZaO,rfl,ZaO,congrArg (fun x=>some (SV.v (.i .i64) x)) (ZaW (by omega)),ZaO,trivial⟩
def Zvg (l:List Br) (k i:Nat):TM:=[(1, .ptr 0 0 0),(3, .ref 1 0 k none),(65, .v (.l ZrT) l),(66,nt l.length),(67,nt i)]
set_option maxHeartbeats 16000000 in
theorem Zqm (netc:List SV) (out:List Txt) (l:List Br) (hr:rchL netc=[]) (ho:out.length≤500) (hl:l.length≤100) (hf: ∀x∈l,ZnG (ZdF x) (ZdQ x)):
 LoopOK Tryd.prog Zax 0 ⟨14,0,187⟩ (ZaX Tryd.f14 18) (Zvg l out.length 0) (pM netc out)
 (fun e tm hp'=>e= .exit 4∧Ent 0 tm hp' [(1, .ptr 0 0 0),(3, .ref 1 0 (out++l.map Za7).length none)] (pM netc (out++l.map Za7))):=by
 refine ZaB Zaq rfl (fun i=>Zvg l (out++(l.take i).map Za7).length i) (fun i=>pM netc (out++(l.take i).map Za7)) (fun i=>i≤l.length) (fun i=>l.length-i) ?_ 0 (Nat.zero_le _) ?_
 case refine_2=>
  have e0:out++(l.take 0).map Za7=out:=by rw[List.take_zero,List.map_nil,List.append_nil]
  rw[e0];exact ZaC
 rintro i hi
 cases h1:decide ((i:Int)<(l.length:Int))with
 |false=>
  have e:i=l.length:=by have:=of_decide_eq_false h1;omega
  refine Zae ?_
  refine Zaa ?_
  refine Zad ?_
  refine brF h1 ?_
  refine⟨rfl, ?_⟩
  rw[e,List.take_length]
  exact Zah ⟨rfl,rfl,trivial⟩
 |true=>
  have hlt:i<l.length:=by have:=of_decide_eq_true h1;omega
  have gx:l[(i:Int).toNat]? =some l[i]:=by rw[Int.toNat_natCast];exact List.getElem?_eq_getElem hlt
  have hx:=hf _ (List.getElem_mem hlt)
  have hnext:out++(l.take (i+1)).map Za7=(out++(l.take i).map Za7)++ [Za7 l[i]]:=by
   rw[List.take_add_one,List.getElem?_eq_getElem hlt,List.map_append,List.append_assoc];rfl
  have hlen:(out++(l.take i).map Za7).length≤1000:=by rw[List.length_append,List.length_map,List.length_take];omega
  obtain⟨x,ex⟩: ∃x,l[i]=x:=⟨_,rfl⟩
  obtain⟨ac,ea⟩: ∃ac,out++(l.take i).map Za7=ac:=⟨_,rfl⟩
  rw[ex]at gx hnext hx
  rw[ea]at hlen hnext
  rw[ea]
  have zC:(ac.length+1)*16≤140737488355328:=by omega
  refine Zae ?_
  refine Zaa ?_
  refine Zad ?_
  refine brT h1 ?_
  have hL:PureOK Tryd.prog Zax 31 [.v (.l .any) ((wds (ZdF x) (ZdQ x)).map Wd.av)] (fun V=>V= .v .s (Za7 x)):=ZiP (ZdF x) (ZdQ x) (List.cons_ne_nil _ _) (Nat.le_of_ble_eq_true rfl) hx
  refine Zae ?_
  refine Za5 rfl (fun _=>rfl) (Int.natCast_nonneg i) gx rfl rfl ?_
  refine Zaa ?_
  refine ZaQ ?_
  refine Zaf rfl (Zar rfl rfl rfl rfl rfl rfl rfl rfl ?_)
  refine Zaw rfl ?_
  refine Zad ?_
  refine Zae ?_
  iterate 3 refine Zaa ?_
  refine Zag rfl (fun _=>rfl) rfl rfl rfl ?_
  iterate 2 refine Zaa ?_
  refine Zag rfl (fun _=>rfl) rfl rfl rfl ?_
  iterate 2 refine Zaa ?_
  refine Zag rfl (fun _=>rfl) rfl rfl rfl ?_
  iterate 2 refine Zaa ?_
  refine Zag rfl (fun _=>rfl) rfl rfl rfl ?_
  iterate 2 refine Zaa ?_
  refine Zag rfl (fun _=>rfl) rfl rfl rfl ?_
  iterate 2 refine Zaa ?_
  refine Zag rfl (fun _=>rfl) rfl rfl rfl ?_
  iterate 2 refine Zaa ?_
  refine Zag rfl (fun _=>rfl) rfl rfl rfl ?_
  iterate 2 refine Zaa ?_
  refine Zag rfl (fun _=>rfl) rfl rfl rfl ?_
  iterate 2 refine Zaa ?_
  refine Zag rfl (fun _=>rfl) rfl rfl rfl ?_
  refine Zaa ?_
  refine ZaQ ?_
  refine Zaf rfl (And.intro (show 0+10≤10 by decide) ((hL).mono ?_))
  rintro _ rfl
  refine Zab rfl rfl ?_
  refine ZaQ ?_
  refine Zaf rfl (Za8 rfl rfl rfl rfl rfl rfl rfl rfl rfl rfl (Za1 (a:=[.cell netc true, .row .s ac true, .cell [.v .s x.1, .v .s x.2.1, .v .s x.2.2.1, .v (.i .i64) x.2.2.2.1, .v (.i .i64) x.2.2.2.2.1, .v (.i .i64) x.2.2.2.2.2.1, .v (.i .i64) x.2.2.2.2.2.2.1, .v (.i .i64) x.2.2.2.2.2.2.2.1, .v (.i .i64) x.2.2.2.2.2.2.2.2] true, .row .any [.s 9 [98,114,97,110,99,104], .s 9 x.1, .s 9 x.2.1, .s 9 x.2.2.1, .i 3 .i64 x.2.2.2.1, .i 3 .i64 x.2.2.2.2.1, .i 3 .i64 x.2.2.2.2.2.1, .i 3 .i64 x.2.2.2.2.2.2.1, .i 3 .i64 x.2.2.2.2.2.2.2.1, .i 3 .i64 x.2.2.2.2.2.2.2.2] true])) rfl zC ?_)
  refine Zab rfl rfl ?_
  refine Zaa ?_
  refine Zad ?_
  refine Zae ?_
  iterate 2 refine Zaa ?_
  refine Zad ?_
  refine⟨i+1,hlt,by show l.length-(i+1)<l.length-i;omega, ?_⟩
  exact ZdH hr (Nat.succ_ne_zero _) rfl rfl hnext ⟨rfl,ZaD (by show 0<2;omega),Zb2 hnext,Zbl (by show 1<2;omega),rfl,ZaO,rfl,ZaO,congrArg (fun x=>some (SV.v (.i .i64) x)) (ZaW (by omega)),ZaO,trivial⟩
def Zvi (l:List Ge) (k i:Nat):TM:=[(1, .ptr 0 0 0),(3, .ref 1 0 k none),(106, .v (.l (.p .s (.p .s (.p (.i .i64) (.p (.i .i64) (.i .i64)))))) l),(107,nt l.length),(108,nt i)]
set_option maxHeartbeats 16000000 in
theorem ZqB (netc:List SV) (out:List Txt) (l:List Ge) (hr:rchL netc=[]) (ho:out.length≤500) (hl:l.length≤100) (hf: ∀x∈l,ZnG (ZdM x) (ZdP x)):
 LoopOK Tryd.prog Zax 0 ⟨14,0,187⟩ (ZaX Tryd.f14 23) (Zvi l out.length 0) (pM netc out)
 (fun e tm hp'=>e= .exit 6∧Ent 0 tm hp' [(1, .ptr 0 0 0),(3, .ref 1 0 (out++l.map Zbf).length none)] (pM netc (out++l.map Zbf))):=by
 refine ZaB Zaq rfl (fun i=>Zvi l (out++(l.take i).map Zbf).length i) (fun i=>pM netc (out++(l.take i).map Zbf)) (fun i=>i≤l.length) (fun i=>l.length-i) ?_ 0 (Nat.zero_le _) ?_
 case refine_2=>
  have e0:out++(l.take 0).map Zbf=out:=by rw[List.take_zero,List.map_nil,List.append_nil]
  rw[e0];exact ZaC
 rintro i hi
 cases h1:decide ((i:Int)<(l.length:Int))with
 |false=>
  have e:i=l.length:=by have:=of_decide_eq_false h1;omega
  refine Zae ?_
  refine Zaa ?_
  refine Zad ?_
  refine brF h1 ?_
  refine⟨rfl, ?_⟩
  rw[e,List.take_length]
  exact Zah ⟨rfl,rfl,trivial⟩
 |true=>
  have hlt:i<l.length:=by have:=of_decide_eq_true h1;omega
  have gx:l[(i:Int).toNat]? =some l[i]:=by rw[Int.toNat_natCast];exact List.getElem?_eq_getElem hlt
  have hx:=hf _ (List.getElem_mem hlt)
  have hnext:out++(l.take (i+1)).map Zbf=(out++(l.take i).map Zbf)++ [Zbf l[i]]:=by
   rw[List.take_add_one,List.getElem?_eq_getElem hlt,List.map_append,List.append_assoc];rfl
  have hlen:(out++(l.take i).map Zbf).length≤1000:=by rw[List.length_append,List.length_map,List.length_take];omega
  obtain⟨x,ex⟩: ∃x,l[i]=x:=⟨_,rfl⟩
  obtain⟨ac,ea⟩: ∃ac,out++(l.take i).map Zbf=ac:=⟨_,rfl⟩
  rw[ex]at gx hnext hx
  rw[ea]at hlen hnext
  rw[ea]
  have zC:(ac.length+1)*16≤140737488355328:=by omega
  refine Zae ?_
  refine Zaa ?_
  refine Zad ?_
  refine brT h1 ?_
  have hL:PureOK Tryd.prog Zax 31 [.v (.l .any) ((wds (ZdM x) (ZdP x)).map Wd.av)] (fun V=>V= .v .s (Zbf x)):=ZiP (ZdM x) (ZdP x) (List.cons_ne_nil _ _) (Nat.le_of_ble_eq_true rfl) hx
  refine Zae ?_
  refine Za5 rfl (fun _=>rfl) (Int.natCast_nonneg i) gx rfl rfl ?_
  refine Zaa ?_
  refine ZaQ ?_
  refine Zaf rfl (Zar rfl rfl rfl rfl rfl rfl rfl rfl ?_)
  refine Zaw rfl ?_
  refine Zad ?_
  refine Zae ?_
  iterate 3 refine Zaa ?_
  refine Zag rfl (fun _=>rfl) rfl rfl rfl ?_
  iterate 2 refine Zaa ?_
  refine Zag rfl (fun _=>rfl) rfl rfl rfl ?_
  iterate 2 refine Zaa ?_
  refine Zag rfl (fun _=>rfl) rfl rfl rfl ?_
  iterate 2 refine Zaa ?_
  refine Zag rfl (fun _=>rfl) rfl rfl rfl ?_
  iterate 2 refine Zaa ?_
  refine Zag rfl (fun _=>rfl) rfl rfl rfl ?_
  refine Zaa ?_
  refine ZaQ ?_
  refine Zaf rfl (And.intro (show 0+6≤6 by decide) ((hL).mono ?_))
  rintro _ rfl
  refine Zab rfl rfl ?_
  refine ZaQ ?_
  refine Zaf rfl (Za8 rfl rfl rfl rfl rfl rfl rfl rfl rfl rfl (Za1 (a:=[.cell netc true, .row .s ac true, .cell [.v .s x.1, .v .s x.2.1, .v (.i .i64) x.2.2.1, .v (.i .i64) x.2.2.2.1, .v (.i .i64) x.2.2.2.2] true, .row .any [.s 9 [103,101,110], .s 9 x.1, .s 9 x.2.1, .i 3 .i64 x.2.2.1, .i 3 .i64 x.2.2.2.1, .i 3 .i64 x.2.2.2.2] true])) rfl zC ?_)
  refine Zab rfl rfl ?_
  refine Zaa ?_
  refine Zad ?_
  refine Zae ?_
  iterate 2 refine Zaa ?_
  refine Zad ?_
  refine⟨i+1,hlt,by show l.length-(i+1)<l.length-i;omega, ?_⟩
  exact ZdH hr (Nat.succ_ne_zero _) rfl rfl hnext ⟨rfl,ZaD (by show 0<2;omega),Zb2 hnext,Zbl (by show 1<2;omega),rfl,ZaO,rfl,ZaO,congrArg (fun x=>some (SV.v (.i .i64) x)) (ZaW (by omega)),ZaO,trivial⟩
def Zvp (l:List Lo) (k i:Nat):TM:=[(1, .ptr 0 0 0),(3, .ref 1 0 k none),(135, .v (.l (.p .s (.p .s (.i .i64)))) l),(136,nt l.length),(137,nt i)]
set_option maxHeartbeats 16000000 in
theorem Zqq (netc:List SV) (out:List Txt) (l:List Lo) (hr:rchL netc=[]) (ho:out.length≤500) (hl:l.length≤100) (hf: ∀x∈l,ZnG (ZdN x) (ZdV x)):
 LoopOK Tryd.prog Zax 0 ⟨14,0,187⟩ (ZaX Tryd.f14 28) (Zvp l out.length 0) (pM netc out)
 (fun e tm hp'=>e= .exit 8∧Ent 0 tm hp' [(1, .ptr 0 0 0),(3, .ref 1 0 (out++l.map Zbh).length none)] (pM netc (out++l.map Zbh))):=by
 refine ZaB Zaq rfl (fun i=>Zvp l (out++(l.take i).map Zbh).length i) (fun i=>pM netc (out++(l.take i).map Zbh)) (fun i=>i≤l.length) (fun i=>l.length-i) ?_ 0 (Nat.zero_le _) ?_
 case refine_2=>
  have e0:out++(l.take 0).map Zbh=out:=by rw[List.take_zero,List.map_nil,List.append_nil]
  rw[e0];exact ZaC
 rintro i hi
 cases h1:decide ((i:Int)<(l.length:Int))with
 |false=>
  have e:i=l.length:=by have:=of_decide_eq_false h1;omega
  refine Zae ?_
  refine Zaa ?_
  refine Zad ?_
  refine brF h1 ?_
  refine⟨rfl, ?_⟩
  rw[e,List.take_length]
  exact Zah ⟨rfl,rfl,trivial⟩
 |true=>
  have hlt:i<l.length:=by have:=of_decide_eq_true h1;omega
  have gx:l[(i:Int).toNat]? =some l[i]:=by rw[Int.toNat_natCast];exact List.getElem?_eq_getElem hlt
  have hx:=hf _ (List.getElem_mem hlt)
  have hnext:out++(l.take (i+1)).map Zbh=(out++(l.take i).map Zbh)++ [Zbh l[i]]:=by
   rw[List.take_add_one,List.getElem?_eq_getElem hlt,List.map_append,List.append_assoc];rfl
  have hlen:(out++(l.take i).map Zbh).length≤1000:=by rw[List.length_append,List.length_map,List.length_take];omega
  obtain⟨x,ex⟩: ∃x,l[i]=x:=⟨_,rfl⟩
  obtain⟨ac,ea⟩: ∃ac,out++(l.take i).map Zbh=ac:=⟨_,rfl⟩
  rw[ex]at gx hnext hx
  rw[ea]at hlen hnext
  rw[ea]
  have zC:(ac.length+1)*16≤140737488355328:=by omega
  refine Zae ?_
  refine Zaa ?_
  refine Zad ?_
  refine brT h1 ?_
  have hL:PureOK Tryd.prog Zax 31 [.v (.l .any) ((wds (ZdN x) (ZdV x)).map Wd.av)] (fun V=>V= .v .s (Zbh x)):=ZiP (ZdN x) (ZdV x) (List.cons_ne_nil _ _) (Nat.le_of_ble_eq_true rfl) hx
  refine Zae ?_
  refine Za5 rfl (fun _=>rfl) (Int.natCast_nonneg i) gx rfl rfl ?_
  refine Zaa ?_
  refine ZaQ ?_
  refine Zaf rfl (Zar rfl rfl rfl rfl rfl rfl rfl rfl ?_)
  refine Zaw rfl ?_
  refine Zad ?_
  refine Zae ?_
  iterate 3 refine Zaa ?_
  refine Zag rfl (fun _=>rfl) rfl rfl rfl ?_
  iterate 2 refine Zaa ?_
  refine Zag rfl (fun _=>rfl) rfl rfl rfl ?_
  iterate 2 refine Zaa ?_
  refine Zag rfl (fun _=>rfl) rfl rfl rfl ?_
  refine Zaa ?_
  refine ZaQ ?_
  refine Zaf rfl (And.intro (show 0+4≤4 by decide) ((hL).mono ?_))
  rintro _ rfl
  refine Zab rfl rfl ?_
  refine ZaQ ?_
  refine Zaf rfl (Za8 rfl rfl rfl rfl rfl rfl rfl rfl rfl rfl (Za1 (a:=[.cell netc true, .row .s ac true, .cell [.v .s x.1, .v .s x.2.1, .v (.i .i64) x.2.2] true, .row .any [.s 9 [108,111,97,100], .s 9 x.1, .s 9 x.2.1, .i 3 .i64 x.2.2] true])) rfl zC ?_)
  refine Zab rfl rfl ?_
  refine Zaa ?_
  refine Zad ?_
  refine Zae ?_
  iterate 2 refine Zaa ?_
  refine Zad ?_
  refine⟨i+1,hlt,by show l.length-(i+1)<l.length-i;omega, ?_⟩
  exact ZdH hr (Nat.succ_ne_zero _) rfl rfl hnext ⟨rfl,ZaD (by show 0<2;omega),Zb2 hnext,Zbl (by show 1<2;omega),rfl,ZaO,rfl,ZaO,congrArg (fun x=>some (SV.v (.i .i64) x)) (ZaW (by omega)),ZaO,trivial⟩
def Zvm (l:List Sto) (k i:Nat):TM:=[(1, .ptr 0 0 0),(3, .ref 1 0 k none),(158, .v (.l (.p .s (.p .s (.p (.i .i64) (.p (.i .i64) (.i .i64)))))) l),(159,nt l.length),(160,nt i)]
set_option maxHeartbeats 16000000 in
theorem ZqI (netc:List SV) (out:List Txt) (l:List Sto) (hr:rchL netc=[]) (ho:out.length≤500) (hl:l.length≤100) (hf: ∀x∈l,ZnG (ZdO x) (ZdU x)):
 LoopOK Tryd.prog Zax 0 ⟨14,0,187⟩ (ZaX Tryd.f14 33) (Zvm l out.length 0) (pM netc out)
 (fun e tm hp'=>e= .exit 10∧Ent 0 tm hp' [(1, .ptr 0 0 0),(3, .ref 1 0 (out++l.map Zbq).length none)] (pM netc (out++l.map Zbq))):=by
 refine ZaB Zaq rfl (fun i=>Zvm l (out++(l.take i).map Zbq).length i) (fun i=>pM netc (out++(l.take i).map Zbq)) (fun i=>i≤l.length) (fun i=>l.length-i) ?_ 0 (Nat.zero_le _) ?_
 case refine_2=>
  have e0:out++(l.take 0).map Zbq=out:=by rw[List.take_zero,List.map_nil,List.append_nil]
  rw[e0];exact ZaC
 rintro i hi
 cases h1:decide ((i:Int)<(l.length:Int))with
 |false=>
  have e:i=l.length:=by have:=of_decide_eq_false h1;omega
  refine Zae ?_
  refine Zaa ?_
  refine Zad ?_
  refine brF h1 ?_
  refine⟨rfl, ?_⟩
  rw[e,List.take_length]
  exact Zah ⟨rfl,rfl,trivial⟩
 |true=>
  have hlt:i<l.length:=by have:=of_decide_eq_true h1;omega
  have gx:l[(i:Int).toNat]? =some l[i]:=by rw[Int.toNat_natCast];exact List.getElem?_eq_getElem hlt
  have hx:=hf _ (List.getElem_mem hlt)
  have hnext:out++(l.take (i+1)).map Zbq=(out++(l.take i).map Zbq)++ [Zbq l[i]]:=by
   rw[List.take_add_one,List.getElem?_eq_getElem hlt,List.map_append,List.append_assoc];rfl
  have hlen:(out++(l.take i).map Zbq).length≤1000:=by rw[List.length_append,List.length_map,List.length_take];omega
  obtain⟨x,ex⟩: ∃x,l[i]=x:=⟨_,rfl⟩
  obtain⟨ac,ea⟩: ∃ac,out++(l.take i).map Zbq=ac:=⟨_,rfl⟩
  rw[ex]at gx hnext hx
  rw[ea]at hlen hnext
  rw[ea]
  have zC:(ac.length+1)*16≤140737488355328:=by omega
  refine Zae ?_
  refine Zaa ?_
  refine Zad ?_
  refine brT h1 ?_
  have hL:PureOK Tryd.prog Zax 31 [.v (.l .any) ((wds (ZdO x) (ZdU x)).map Wd.av)] (fun V=>V= .v .s (Zbq x)):=ZiP (ZdO x) (ZdU x) (List.cons_ne_nil _ _) (Nat.le_of_ble_eq_true rfl) hx
  refine Zae ?_
  refine Za5 rfl (fun _=>rfl) (Int.natCast_nonneg i) gx rfl rfl ?_
  refine Zaa ?_
  refine ZaQ ?_
  refine Zaf rfl (Zar rfl rfl rfl rfl rfl rfl rfl rfl ?_)
  refine Zaw rfl ?_
  refine Zad ?_
  refine Zae ?_
  iterate 3 refine Zaa ?_
  refine Zag rfl (fun _=>rfl) rfl rfl rfl ?_
  iterate 2 refine Zaa ?_
  refine Zag rfl (fun _=>rfl) rfl rfl rfl ?_
  iterate 2 refine Zaa ?_
  refine Zag rfl (fun _=>rfl) rfl rfl rfl ?_
  iterate 2 refine Zaa ?_
  refine Zag rfl (fun _=>rfl) rfl rfl rfl ?_
  iterate 2 refine Zaa ?_
  refine Zag rfl (fun _=>rfl) rfl rfl rfl ?_
  refine Zaa ?_
  refine ZaQ ?_
  refine Zaf rfl (And.intro (show 0+6≤6 by decide) ((hL).mono ?_))
  rintro _ rfl
  refine Zab rfl rfl ?_
  refine ZaQ ?_
  refine Zaf rfl (Za8 rfl rfl rfl rfl rfl rfl rfl rfl rfl rfl (Za1 (a:=[.cell netc true, .row .s ac true, .cell [.v .s x.1, .v .s x.2.1, .v (.i .i64) x.2.2.1, .v (.i .i64) x.2.2.2.1, .v (.i .i64) x.2.2.2.2] true, .row .any [.s 9 [115,116,111,114,101], .s 9 x.1, .s 9 x.2.1, .i 3 .i64 x.2.2.1, .i 3 .i64 x.2.2.2.1, .i 3 .i64 x.2.2.2.2] true])) rfl zC ?_)
  refine Zab rfl rfl ?_
  refine Zaa ?_
  refine Zad ?_
  refine Zae ?_
  iterate 2 refine Zaa ?_
  refine Zad ?_
  refine⟨i+1,hlt,by show l.length-(i+1)<l.length-i;omega, ?_⟩
  exact ZdH hr (Nat.succ_ne_zero _) rfl rfl hnext ⟨rfl,ZaD (by show 0<2;omega),Zb2 hnext,Zbl (by show 1<2;omega),rfl,ZaO,rfl,ZaO,congrArg (fun x=>some (SV.v (.i .i64) x)) (ZaW (by omega)),ZaO,trivial⟩
end Go.Proofs.YtbdkglokkepmfaaDoor
