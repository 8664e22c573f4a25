/-
 lin.Solve.
-/
import Derived.Test.YtdnodlkdndfplaaGreatDoorV8
set_option linter.constructorNameAsVariable false
set_option linter.unusedSimpArgs false
set_option linter.unusedVariables false
namespace Go.Proofs.YtdnodlkdndfplaaGreatDoor
open Go.Am Go.Tx Dv Go.Lib La
set_option maxRecDepth 100000
def Zhs (W:Nat) (f:Mx) (β:Nat→Rat):Mx:=fun i j=>if j<W then f i j else β i
def xsS (n W:Nat) (g:Mx) (i:Nat):List (List qct.D):=(List.range n).map fun a=>if a<i then Zc6 (W+1) (g a)else[]
theorem Zi0 {n W i:Nat} {g:Mx}:(xsS n W g i).length=n:=by rw[xsS,List.length_map,List.length_range]
theorem ZpT {n W i a:Nat} {g:Mx} (ha:a<n):(xsS n W g i)[a]? =some (if a<i then Zc6 (W+1) (g a)else[]):=by rw[xsS,List.getElem?_map,List.getElem?_range ha];rfl
theorem ZwG {n W:Nat} {g:Mx}:xsS n W g 0=List.replicate n []:=by
 apply List.ext_getElem?
 intro a
 by_cases ha:a<n
 ·rw[ZpT ha,List.getElem?_replicate,if_pos ha,if_neg (Nat.not_lt_zero a)]
 ·rw[List.getElem?_eq_none (by rw[Zi0];omega),List.getElem?_eq_none (by rw[List.length_replicate];omega)]
theorem Zvz {n W:Nat} {g:Mx}:xsS n W g n=Zbo n (W+1) g:=List.map_congr_left fun a ha=>by rw[if_pos (List.mem_range.1 ha)]
theorem ZxU {n W i:Nat} {g:Mx} (hi:i<n):(xsS n W g i).set i (Zc6 (W+1) (g i))=xsS n W g (i+1):=by
 apply List.ext_getElem?
 intro a
 by_cases ha:a<n
 ·rw[ZpT ha]
  by_cases e:i=a
  ·subst e;rw[List.getElem?_set_self (by rw[Zi0];exact ha),if_pos (Nat.lt_succ_self i)]
  ·rw[List.getElem?_set_ne e,ZpT ha]
   by_cases h:a<i
   ·rw[if_pos h,if_pos (by omega)]
   ·rw[if_neg h,if_neg (by omega)]
 ·rw[List.getElem?_eq_none (by rw[List.length_set,Zi0];omega),List.getElem?_eq_none (by rw[Zi0];omega)]
theorem Zus {W:Nat} {u:Nat→Rat}:Zc6 (W+1) u=Zc6 W u++ [Zcy (u W)]:=by rw[Zc6,List.range_succ,List.map_append];rfl
theorem Zym {W i:Nat} {f:Mx} {β:Nat→Rat}:Zc6 (W+1) (Zhs W f β i)=Zc6 W (f i)++ [Zcy (β i)]:=by
 rw[Zus]
 congr 1
 ·exact ZgX fun j hj=>if_pos hj
 ·show[Zcy (if W<W then f i W else β i)]=_
  rw[if_neg (Nat.lt_irrefl W)]
abbrev mtS (xs:List (List qct.D)):List SM:= .many (.l qct) (ZaM 1 xs) true::([]++(Za8 qct xs++ []))
theorem Zqr {xs:List (List qct.D)} {i:Nat} (hi:i<xs.length) (he:xs[i]=[]):(Za8 qct xs).set i (.row qct [] true)=Za8 qct xs:=by
 rw[ZmN]
 congr 1
 rw[←he,List.set_getElem_self]
theorem ZCb {A A' R1 R2 R3 d:SM} {rows:List SM}:((((A::([]++(rows++ [])))++ [R1])++ [R2]).set ((A::([]++(rows++ [])))++ [R1]).length d++ [R3]).set 0 A'=A'::([]++(rows++ [R1,d,R3])):=by
 rw[Zuu];simp
theorem ZCo {A A' R1 R3:SM} {rows:List SM}:(((A::([]++(rows++ [])))++ [R1])++ [R3]).set 0 A'=A'::([]++(rows++ [R1,R3])):=by simp
def vLA (n W:Nat) (f:Mx) (β:Nat→Rat) (i:Nat):TM:=[(0, .v (.l (.l qct)) (Zbo n W f)),(1, .v (.l qct) (Zc6 n β)),(6,nt W),(7, .ref 0 0 n none),(19, .v (.l (.l qct)) (Zbo n W f)),(20,nt n),(21,nt i)]
def ZCn (n W:Nat) (f:Mx) (β:Nat→Rat) (i:Nat) (tm:TM):Prop:=Zbj 0 tm=some (.v (.l (.l qct)) (Zbo n W f))∧Zbj 1 tm=some (.v (.l qct) (Zc6 n β))∧Zbj 6 tm=some (nt W)∧Zbj 7 tm=some (.ref 0 0 n none)∧Zbj 19 tm=some (.v (.l (.l qct)) (Zbo n W f))∧Zbj 20 tm=some (nt n)∧Zbj 21 tm=some (.v (.i .i64) (IntKind.i64.wrap ((i:Int)+1)))
theorem Zxh {n W i:Nat} {f:Mx} {β:Nat→Rat} {tm:TM} (h:ZCn n W f β i tm) (hi:i<1000):ZvS 1 tm (vLA n W f β (i+1)):=by
 obtain⟨q0,q1,q6,q7,q19,q20,q21⟩:=h
 rw[Zd7 (by omega)]at q21
 exact⟨q0,rfl,q1,rfl,q6,rfl,q7,rfl,q19,rfl,q20,rfl,q21,rfl,trivial⟩
theorem ZqF {tm tm':TM} {xs:List (List qct.D)} {i i' n L e N':Nat} {ex:List SM} {y:List qct.D} (hxi:i<xs.length) (hxe:xs[i]=[]) (hxl:xs.length=n) (e0:i'=i) (hx:ex[e]? =some (.row qct y true)) (hL:L=1+n+e) (hN:N'=y.length) (htm:ZvS 1 tm tm'):
 Ent 0 tm (.many (.l qct) ((ZaM 1 xs).set i' (.ref L 0 N' none)) true::([]++(Za8 qct xs++ex))) tm' (mtS (xs.set i y)):=by
 have h:=ZvW (F:=0) (ct:=qct) (fr:=[]) (ex:=ex) (xs:=xs) (i:=i) (i':=i') (n':=N') (e:=e) (L:=L) (p:=1) (y:=y) (d:= .row qct [] true) e0 hN rfl hxi (by rw[hL,hxl];simp) hx (Nat.zero_le _) (fun _ h=>absurd h List.not_mem_nil) htm
 rw[Zqr hxi hxe]at h
 exact h
set_option maxHeartbeats 16000000 in
theorem lsA (n W:Nat) (f:Mx) (β:Nat→Rat) (hn:n≤1000) (hW:W≤999):LoopOK Tryz.prog Zan 0 ⟨77,0,85⟩ (Zbz Tryz.f77 4) (vLA n W f β 0) (mtS (xsS n W (Zhs W f β) 0))
 (fun e tm hp=>e= .exit 0∧Ent 0 tm hp [(6,nt W),(7, .ref 0 0 n none)] (mtS (Zbo n (W+1) (Zhs W f β)))):=by
 refine Zat Zaa rfl (vLA n W f β) (fun i=>mtS (xsS n W (Zhs W f β) i)) (fun i=>i≤n) (fun i=>n-i) ?_ 0 (Nat.zero_le _) ZaU
 intro i hi
 cases h1:decide ((i:Int)<(n:Int))with
 |false=>
  have he:i=n:=by have:=of_decide_eq_false h1;omega
  subst he
  refine Zas ?_
  refine Zad ?_
  refine Zaq ?_
  refine brF h1 ?_
  exact⟨rfl,Ent.eqs (by rw[Zvz]) (Zap ⟨rfl,rfl,trivial⟩)⟩
 |true=>
  have hlt:i<n:=by have:=of_decide_eq_true h1;omega
  have ci:=cin hlt
  have gm:(Zbo n W f)[(i:Int).toNat]? =some (Zc6 W (f i)):=by rw[Int.toNat_natCast];exact ZgR hlt
  have gb:(Zc6 n β)[(i:Int).toNat]? =some (Zcy (β i)):=by rw[Int.toNat_natCast];exact ZeG hlt
  have hrl:(Zc6 W (f i)).length=W:=Zbl
  have hnew:=Zym (W:=W) (i:=i) (f:=f) (β:=β)
  have hset:=ZxU (W:=W) (g:=Zhs W f β) hlt
  have hxl:(xsS n W (Zhs W f β) i).length=n:=Zi0
  have hxi:i<(xsS n W (Zhs W f β) i).length:=by rw[hxl];exact hlt
  have hxe:(xsS n W (Zhs W f β) i)[i]=[]:=by
   have:=ZpT (W:=W) (g:=Zhs W f β) (i:=i) hlt
   rw[if_neg (Nat.lt_irrefl i),List.getElem?_eq_getElem hxi]at this
   exact Option.some.inj this
  rw[hnew]at hset
  obtain⟨row,erow⟩: ∃x,Zc6 W (f i)=x:=⟨_,rfl⟩
  obtain⟨b,eb⟩: ∃x,Zcy (β i)=x:=⟨_,rfl⟩
  rw[erow]at gm hrl hset
  rw[eb]at gb hset
  obtain⟨xs,exs⟩: ∃x,xsS n W (Zhs W f β) i=x:=⟨_,rfl⟩
  have hset:xs.set i (row++ [b])=xsS n W (Zhs W f β) (i+1):=by rw[←exs];exact hset
  have hxl:xs.length=n:=by rw[←exs];exact hxl
  have hxi:i<xs.length:=by rw[hxl];exact hlt
  have hxe:xs[i]=[]:=by subst exs;exact hxe
  show wp _ _ _ _ _ _ _ (mtS (xsS n W (Zhs W f β) i)) _
  rw[exs]
  have hml:(ZaM 1 xs).length=n:=by rw[ZaF,hxl]
  have e0:0+(i:Int).toNat=i:=by rw[Int.toNat_natCast,Nat.zero_add]
  have hsl:0+(i:Int).toNat<(ZaM 1 xs).length:=by rw[e0,hml];exact hlt
  have hsame:=Zqr hxi hxe
  have hlen:(row++ [b]).length=W+1:=by rw[List.length_append,hrl];rfl
  cases row with
  |cons y r=>
   rw[List.length_cons]at hrl
   have zA:(r.length+1)*64≤140737488355328:=by omega
   have zB:(r.length+1+1)*64≤140737488355328:=Nat.le_trans (Nat.mul_le_mul_right 64 (show r.length+1+1≤1000 by clear zA;omega)) (by decide)
   refine Zas ?_
   refine Zad ?_
   refine Zaq ?_
   refine brT h1 ?_
   refine Zas ?_
   iterate 2 refine Zad ?_
   refine Zaq ?_
   refine ZAX ?_
   refine Zb3 rfl rfl rfl rfl rfl ?_
   refine Zb3 rfl rfl rfl rfl rfl ?_
   refine Zbw rfl rfl (opv (fun _=>rfl) rfl rfl ?_)
   refine Zbw rfl rfl (opv (fun _=>rfl) rfl rfl ?_)
   refine Zbw rfl rfl (opy (fun _=>rfl) (Int.natCast_nonneg i) gm rfl rfl ?_)
   refine Zbw rfl rfl (opv (fun _=>rfl) rfl rfl ?_)
   refine Zb3 rfl rfl rfl rfl rfl ?_
   refine Zb3 rfl rfl rfl rfl rfl ?_
   refine ZmY rfl rfl rfl (fun _=>rfl) (Int.natCast_nonneg i) gb rfl rfl ?_
   refine Zms rfl rfl rfl (fun _=>rfl) rfl rfl ?_
   refine Zbw rfl rfl (opm (fun _=>rfl) rfl rfl ?_)
   refine Zju rfl rfl (And.intro zA ?_)
   refine Zbx rfl rfl ?_
   refine Zju rfl rfl (Ztl rfl rfl rfl rfl rfl rfl rfl rfl rfl ZeI (Zcn ZeI) rfl zB ?_)
   refine Zbx rfl rfl ?_
   refine Zbw rfl rfl (ZaD rfl rfl rfl rfl rfl rfl rfl ci ?_)
   refine Zbx rfl rfl ?_
   refine Zju rfl rfl (ZeD rfl rfl rfl rfl rfl rfl rfl hsl ?_)
   refine Zcb rfl ?_
   refine ZAI ?_
   refine Zas ?_
   iterate 2 refine Zad ?_
   refine Zaq ?_
   refine⟨i+1,hlt,Nat.sub_lt_sub_left hlt (Nat.lt_succ_self i), ?_⟩
   show Ent 0 _ _ _ (mtS (xsS n W (Zhs W f β) (i+1)))
   rw[←hset]
   refine Ent.eqs (ZCb (rows:=Za8 qct xs)) ?_
   exact ZqF (e:=2) (y:=y::r++ [b]) hxi hxe hxl e0 rfl (by simp only[List.length_append,List.length_cons,List.length_nil,Zaw,hxl];omega) (by simp only[List.length_append,List.length_cons,List.length_nil]) (Zxh ⟨rfl,rfl,rfl,rfl,rfl,rfl,rfl⟩ (by omega))
  |nil=>
   have zB:64≤140737488355328:=by decide
   refine Zas ?_
   refine Zad ?_
   refine Zaq ?_
   refine brT h1 ?_
   refine Zas ?_
   iterate 2 refine Zad ?_
   refine Zaq ?_
   refine ZAX ?_
   refine Zb3 rfl rfl rfl rfl rfl ?_
   refine Zb3 rfl rfl rfl rfl rfl ?_
   refine Zbw rfl rfl (opv (fun _=>rfl) rfl rfl ?_)
   refine Zbw rfl rfl (opv (fun _=>rfl) rfl rfl ?_)
   refine Zbw rfl rfl (opy (fun _=>rfl) (Int.natCast_nonneg i) gm rfl rfl ?_)
   refine Zbw rfl rfl (opv (fun _=>rfl) rfl rfl ?_)
   refine Zb3 rfl rfl rfl rfl rfl ?_
   refine Zb3 rfl rfl rfl rfl rfl ?_
   refine ZmY rfl rfl rfl (fun _=>rfl) (Int.natCast_nonneg i) gb rfl rfl ?_
   refine Zms rfl rfl rfl (fun _=>rfl) rfl rfl ?_
   refine Zbw rfl rfl (opm (fun _=>rfl) rfl rfl ?_)
   refine Zju rfl rfl (opv (fun _=>rfl) rfl rfl ?_)
   refine Zju rfl rfl (ZuS rfl rfl rfl rfl rfl rfl rfl rfl rfl ZeI zB ?_)
   refine Zbx rfl rfl ?_
   refine Zbw rfl rfl (ZaD rfl rfl rfl rfl rfl rfl rfl ci ?_)
   refine Zbx rfl rfl ?_
   refine Zju rfl rfl (ZeD rfl rfl rfl rfl rfl rfl rfl hsl ?_)
   refine Zcb rfl ?_
   refine ZAI ?_
   refine Zas ?_
   iterate 2 refine Zad ?_
   refine Zaq ?_
   refine⟨i+1,hlt,Nat.sub_lt_sub_left hlt (Nat.lt_succ_self i), ?_⟩
   show Ent 0 _ _ _ (mtS (xsS n W (Zhs W f β) (i+1)))
   rw[←hset]
   refine Ent.eqs (ZCo (rows:=Za8 qct xs)) ?_
   exact ZqF (e:=1) (y:=[]++ [b]) hxi hxe hxl e0 rfl (by simp only[List.length_append,List.length_cons,List.length_nil,Zaw,hxl];omega) rfl (Zxh ⟨rfl,rfl,rfl,rfl,rfl,rfl,rfl⟩ (by omega))
def vLB (n W:Nat) (N:Mx) (p:List Nat) (i:Nat):TM:=[(6,nt W),(9, .v (.l (.l qct)) (Zbo n (W+1) N)),(10, .v (.l (.i .i64)) (p.map Int.ofNat)),(11,nt i)]
set_option maxHeartbeats 16000000 in
theorem lsB (n W:Nat) (N:Mx) (p:List Nat) (hn:n≤1000) (hp:p.length≤n):LoopOK Tryz.prog Zan 0 ⟨77,0,85⟩ (Zbz Tryz.f77 10) (vLB n W N p p.length) []
 (fun e tm hp=>(e= .exit 2∧(∀i,p.length≤i→i<n→N i W=0)∧Ent 0 tm hp [(6,nt W),(9, .v (.l (.l qct)) (Zbo n (W+1) N)),(10, .v (.l (.i .i64)) (p.map Int.ofNat))] [])∨(e= .ret∧(∃i,p.length≤i∧i<n∧N i W≠0)∧Ent 0 tm hp [(4, .nils),(5,nt 0)] [])):=by
 refine Zat Zaa rfl (vLB n W N p) (fun _=> []) (fun i=>p.length≤i∧i≤n∧ ∀j,p.length≤j→j<i→N j W=0) (fun i=>n-i) ?_ p.length ⟨Nat.le_refl _,hp,fun j h1 h2=>absurd h2 (by omega)⟩ ZaU
 rintro i ⟨hi0,hi,hz⟩
 have hel:(Zbo n (W+1) N).length=n:=ZaK
 cases h1:decide ((i:Int)<((Zbo n (W+1) N).length:Int))with
 |false=>
  have he:i=n:=by have:=of_decide_eq_false h1;rw[hel]at this;omega
  subst he
  refine Zas ?_
  iterate 4 refine Zad ?_
  refine Zaq ?_
  refine brF h1 ?_
  exact .inl ⟨rfl,hz,Zap ⟨rfl,rfl,rfl,trivial⟩⟩
 |true=>
  have hlt:i<n:=by have:=of_decide_eq_true h1;rw[hel]at this;omega
  have gm:(Zbo n (W+1) N)[(i:Int).toNat]? =some (Zc6 (W+1) (N i)):=by rw[Int.toNat_natCast];exact ZgR hlt
  have gk:(Zc6 (W+1) (N i))[(W:Int).toNat]? =some (Zcy (N i W)):=by rw[Int.toNat_natCast];exact ZeG (Nat.lt_succ_self W)
  have hS:=Zlc (N i W)
  obtain⟨row,erow⟩: ∃x,Zc6 (W+1) (N i)=x:=⟨_,rfl⟩
  rw[erow]at gm gk
  cases h2:decide ((N i W).num.sign=0)with
  |true=>
   have h3:(!decide ((N i W).num.sign=0))=false:=by rw[h2];rfl
   refine Zas ?_
   iterate 4 refine Zad ?_
   refine Zaq ?_
   refine brT h1 ?_
   refine Zas ?_
   iterate 2 refine Zad ?_
   refine ZcM rfl (fun _=>rfl) (Int.natCast_nonneg i) gm rfl rfl ?_
   iterate 2 refine Zad ?_
   refine ZcM rfl (fun _=>rfl) (Int.natCast_nonneg W) gk rfl rfl ?_
   refine Zad ?_
   refine Zag rfl ((hS).mono ?_)
   rintro _ rfl
   refine Zab rfl rfl ?_
   refine Zad ?_
   refine Zaq ?_
   refine brF h3 ?_
   refine Zas ?_
   iterate 3 refine Zad ?_
   refine Zaq ?_
   refine⟨i+1,⟨by omega,hlt,fun j g1 g2=> ?_⟩,by show n-(i+1)<n-i;omega, ?_⟩
   ·by_cases e:j=i
    ·rw[e];exact ZA3 h2
    ·exact hz j g1 (by omega)
   ·exact Zap ⟨rfl,rfl,rfl,congrArg (fun x=>some (SV.v (.i .i64) x)) (Zd7 (by omega)),trivial⟩
  |false=>
   have h3:(!decide ((N i W).num.sign=0))=true:=by rw[h2];rfl
   refine Zas ?_
   iterate 4 refine Zad ?_
   refine Zaq ?_
   refine brT h1 ?_
   refine Zas ?_
   iterate 2 refine Zad ?_
   refine ZcM rfl (fun _=>rfl) (Int.natCast_nonneg i) gm rfl rfl ?_
   iterate 2 refine Zad ?_
   refine ZcM rfl (fun _=>rfl) (Int.natCast_nonneg W) gk rfl rfl ?_
   refine Zad ?_
   refine Zag rfl ((hS).mono ?_)
   rintro _ rfl
   refine Zab rfl rfl ?_
   refine Zad ?_
   refine Zaq ?_
   refine brT h3 ?_
   refine Zas ?_
   iterate 2 refine Zad ?_
   refine Zaq ?_
   refine Zc0 ?_
   repeat (first|refine ZdT ?_|refine ZdX ?_|refine ZcX ?_)
   exact .inr ⟨rfl,⟨i,hi0,hlt,ZB2 h2⟩,ZiR ⟨rfl,rfl,rfl,rfl,trivial⟩⟩
def mxS (W:Nat) (u:Nat→Rat) (i:Nat):List qct.D:=(List.range W).map fun j=>if j<i then Zcy (u j)else qct.z
theorem ZlC {W i:Nat} {u:Nat→Rat}:(mxS W u i).length=W:=by rw[mxS,List.length_map,List.length_range]
theorem ZqD {W i j:Nat} {u:Nat→Rat} (hj:j<W):(mxS W u i)[j]? =some (if j<i then Zcy (u j)else qct.z):=by rw[mxS,List.getElem?_map,List.getElem?_range hj];rfl
theorem ZwA {W:Nat} {u:Nat→Rat}:List.replicate W qct.z=mxS W u 0:=by
 apply List.ext_getElem?
 intro a
 by_cases ha:a<W
 ·rw[ZqD ha,List.getElem?_replicate,if_pos ha,if_neg (Nat.not_lt_zero a)]
 ·rw[List.getElem?_eq_none (by rw[List.length_replicate];omega),List.getElem?_eq_none (by rw[ZlC];omega)]
theorem Zu9 {W:Nat} {u:Nat→Rat}:mxS W u W=Zc6 W u:=List.map_congr_left fun a ha=>by rw[if_pos (List.mem_range.1 ha)]
theorem Zx8 {W i:Nat} {u:Nat→Rat} (hi:i<W):(mxS W u i).set i (Zcy (u i))=mxS W u (i+1):=by
 apply List.ext_getElem?
 intro a
 by_cases ha:a<W
 ·rw[ZqD ha]
  by_cases e:i=a
  ·subst e;rw[List.getElem?_set_self (by rw[ZlC];exact ha),if_pos (Nat.lt_succ_self i)]
  ·rw[List.getElem?_set_ne e,ZqD ha]
   by_cases h:a<i
   ·rw[if_pos h,if_pos (by omega)]
   ·rw[if_neg h,if_neg (by omega)]
 ·rw[List.getElem?_eq_none (by rw[List.length_set,ZlC];omega),List.getElem?_eq_none (by rw[ZlC];omega)]
def vLC (n W:Nat) (N:Mx) (i:Nat):TM:=[(6,nt W),(9, .v (.l (.l qct)) (Zbo n (W+1) N)),(12, .ref 0 0 W none),(69,nt W),(70,nt i)]
set_option maxHeartbeats 16000000 in
theorem lsC (n W:Nat) (N:Mx) (hn:n≤1000) (hW:W≤n):LoopOK Tryz.prog Zan 0 ⟨77,0,85⟩ (Zbz Tryz.f77 18) (vLC n W N 0) [.row qct (mxS W (fun i=>N i W) 0) true]
 (fun e tm hp=>e= .exit 4∧Ent 0 tm hp [(12, .ref 0 0 W none)] [.row qct (Zc6 W fun i=>N i W) true]):=by
 refine Zat Zaa rfl (vLC n W N) (fun i=> [.row qct (mxS W (fun i=>N i W) i) true]) (fun i=>i≤W) (fun i=>W-i) ?_ 0 (Nat.zero_le _) ZaU
 intro i hi
 cases h1:decide ((i:Int)<(W:Int))with
 |false=>
  have he:i=W:=by have:=of_decide_eq_false h1;omega
  subst he
  refine Zas ?_
  refine Zad ?_
  refine Zaq ?_
  refine brF h1 ?_
  exact⟨rfl,Ent.eqs (by rw[Zu9]) (Zap ⟨rfl,trivial⟩)⟩
 |true=>
  have hlt:i<W:=by have:=of_decide_eq_true h1;omega
  have ci:=cin hlt
  have gm:(Zbo n (W+1) N)[(i:Int).toNat]? =some (Zc6 (W+1) (N i)):=by rw[Int.toNat_natCast];exact ZgR (by omega)
  have gk:(Zc6 (W+1) (N i))[(W:Int).toNat]? =some (Zcy (N i W)):=by rw[Int.toNat_natCast];exact ZeG (Nat.lt_succ_self W)
  have gy:(mxS W (fun i=>N i W) i)[0+(i:Int).toNat]? =some qct.z:=by rw[Int.toNat_natCast,Nat.zero_add,ZqD hlt,if_neg (Nat.lt_irrefl i)]
  have hset:(mxS W (fun i=>N i W) i).set (0+(i:Int).toNat) (Zcy (N i W))=mxS W (fun i=>N i W) (i+1):=by rw[Int.toNat_natCast,Nat.zero_add];exact Zx8 (u:=fun i=>N i W) hlt
  obtain⟨row,erow⟩: ∃x,Zc6 (W+1) (N i)=x:=⟨_,rfl⟩
  rw[erow]at gm gk
  refine Zas ?_
  refine Zad ?_
  refine Zaq ?_
  refine brT h1 ?_
  refine Zas ?_
  iterate 2 refine Zad ?_
  refine Zaq ?_
  refine Zas ?_
  iterate 4 refine Zad ?_
  refine ZcM rfl (fun _=>rfl) (Int.natCast_nonneg i) gm rfl rfl ?_
  iterate 2 refine Zad ?_
  refine ZcM rfl (fun _=>rfl) (Int.natCast_nonneg W) gk rfl rfl ?_
  refine Zad ?_
  refine ZhR rfl (fun _=>rfl) ci rfl rfl ?_
  refine Zag rfl (Zh1 (z:=Zcy (N i W)) rfl rfl rfl rfl rfl gy rfl rfl rfl ?_)
  refine Zcb rfl ?_
  refine Zaq ?_
  refine Zas ?_
  iterate 2 refine Zad ?_
  refine Zaq ?_
  refine⟨i+1,hlt,by show W-(i+1)<W-i;omega, ?_⟩
  exact Ent.eqs (congrArg (fun x=> [SM.row qct x true]) hset) (Zap ⟨rfl,rfl,rfl,rfl,congrArg (fun x=>some (SV.v (.i .i64) x)) (Zd7 (by omega)),trivial⟩)
def ZAH (n W:Nat) (f:Mx) (β:Nat→Rat) (V:SV):Prop:= ∃N p,Elm n (W+1) (Zhs W f β) W p N∧
 (((∃i,p.length≤i∧i<n∧N i W≠0)∧V= .tup [.nils,nt 0])∨((∀i,p.length≤i→i<n→N i W=0)∧p.length<W∧V= .tup [.nils,nt 2])∨((∀i,p.length≤i→i<n→N i W=0)∧W≤p.length∧V= .tup [.v (.l qct) (Zc6 W fun i=>N i W),nt 1]))
abbrev cxL:Cx:=⟨77,0,85⟩
set_option maxHeartbeats 16000000 in
theorem ZvZ (n W K:Nat) (f:Mx) (β:Nat→Rat) (hn:n≤1000) (hW:W≤999) (h0:n=0→W=0) (hK:K≤50000000) (hs: ∀k p N,k≤W+1→Elm n (W+1) (Zhs W f β) k p N→ ∀i j,i<n→j<W+1→szQ (N i j) K):
 PureOK Tryz.prog Zan 77 [.v (.l (.l qct)) (Zbo n W f), .v (.l qct) (Zc6 n β)] (ZAH n W f β):=by
 refine ZeX (fn:=Tryz.f77) (code:=Zb1 Tryz.f77) Zaa (by kernel_rfl) rfl Tryz.func77 (by kernel_rfl) (Nat.le_of_ble_eq_true (by kernel_rfl)) ?_
 obtain⟨Q,eQ⟩: ∃Q:SV→Prop,ZAH n W f β=Q:=⟨_,rfl⟩
 rw[eQ]
 show CodeOK Tryz.prog Zan 0 cxL (Zb1 Tryz.f77) [(0, .v (.l (.l qct)) (Zbo n W f)),(1, .v (.l qct) (Zc6 n β))] [] (ZrM tys Tryz.f77.results.toList fun V hp=>ZdB hp 40 V Q)
 have hel:(Zbo n W f).length=n:=ZaK
 have hw:=ZwJ (Zbo n W f)
 have e:ZdF (Zbo n W f)=W:=by
  cases n with
  |zero=>rw[h0 rfl];rfl
  |succ m=>
   have h:0<(Zbo (m+1) W f).length:=by rw[ZaK];omega
   have h2:=ZdU h
   cases hx:Zbo (m+1) W f with
   |nil=>rw[hx]at h;cases h
   |cons r l=>
    simp only[hx,List.getElem_cons_zero]at h2
    show r.length=W
    rw[h2,Zbl]
 rw[e]at hw
 have hR:=ZvP n (W+1) W K (Zhs W f β) hn (by omega) (.inr (by omega)) (by omega) hK hs
 have hmk:(0:Int)≤((Zbo n W f).length:Int)∧((Zbo n W f).length:Int)≤((Zbo n W f).length:Int)∧(24:Int)*((Zbo n W f).length:Int)≤281474976710656∧((Zbo n W f).length:Int)<9223372036854775808:=by rw[hel];omega
 refine Zak (Zau Zaa ?_)
 refine Zas ?_
 iterate 2 refine Zad ?_
 refine Zaq ?_
 refine Zak (Zau Zaa ?_)
 refine Zas ?_
 refine Zad ?_
 refine Zag rfl ((hw).mono ?_)
 rintro _ rfl
 refine Zab rfl rfl ?_
 refine Zad ?_
 refine Zaq ?_
 refine Zak (Zau Zaa ?_)
 refine Zas ?_
 iterate 2 refine Zad ?_
 refine Zag rfl (And.intro hmk ?_)
 refine Zab rfl rfl ?_
 refine Zad ?_
 refine Zaq ?_
 refine Zak (Zak (Zau Zaa ?_))
 refine Zas ?_
 iterate 3 refine Zad ?_
 refine Zaq ?_
 refine Zbi rfl (ZbV ?_)
 refine((lsA n W f β hn hW).ent ?_).mono ?_
 ·rw[ZwG]
  have hlen:(((Zbo n W f).length:Nat):Int).toNat=n:=by rw[Int.toNat_natCast,hel]
  refine Ent.eqs (hp0:=[.many (.l qct) (List.replicate n .nils) true]) ?_ (Zwt rfl (Nat.zero_le _) ⟨rfl,rfl,rfl,rfl,rfl,rfl,congrArg (fun x=>some (SV.ref 0 0 x none)) hlen,rfl,rfl,rfl,congrArg (fun x=>some (SV.v (.i .i64) x)) (congrArg Int.ofNat hel),rfl,rfl,rfl,trivial⟩)
  show[SM.many (.l qct) (List.replicate (((Zbo n W f).length:Nat):Int).toNat .nils) true]=_
  rw[hlen]
 rintro _ tm hp ⟨rfl,hE⟩
 refine CodeOK.ent ?_ hE
 refine Zak (Zau Zaa ?_)
 refine Zas ?_
 iterate 2 refine Zad ?_
 refine Zag rfl (ZrA rfl rfl rfl rfl rfl rfl (Ztj (m:=37) rfl ZaK.symm (ZBI (n:=38) (hR.mono ?_))))
 rintro _ ⟨N,p,hE,rfl⟩
 refine Zab rfl rfl ?_
 iterate 5 refine Zad ?_
 refine Zaq ?_
 refine CodeOK.ent (tm':=[(6,nt W),(9, .v (.l (.l qct)) (Zbo n (W+1) N)),(10, .v (.l (.i .i64)) (p.map Int.ofNat))]) (hp':=[]) ?_ (ZiR ⟨rfl,rfl,rfl,rfl,rfl,rfl,trivial⟩)
 have hml:(p.map Int.ofNat).length=p.length:=List.length_map _
 have hpn:p.length≤n:=hE.ech.mn
 refine Zak (Zak (Zau Zaa ?_))
 refine Zas ?_
 iterate 3 refine Zad ?_
 refine Zaq ?_
 refine Zbi rfl (ZbV ?_)
 refine((lsB n W N p hn hpn).ent ?_).through ?_
 ·exact Zap ⟨rfl,rfl,rfl,congrArg (fun x=>some (SV.v (.i .i64) x)) (congrArg Int.ofNat hml),trivial⟩
 rintro _ tm hp (⟨rfl,hz,hE2⟩|⟨rfl,hx,hE2⟩)
 ·refine⟨_,_,hE2, ?_⟩
  show CodeOK _ _ _ _ _ _ _ _
  cases h1:decide (((p.map Int.ofNat).length:Int)<(W:Int))with
  |true=>
   refine Zak (Zak (Zau Zaa ?_))
   refine Zas ?_
   iterate 4 refine Zad ?_
   refine Zaq ?_
   refine Zau Zaa ?_
   refine brT h1 ?_
   refine Zas ?_
   iterate 2 refine Zad ?_
   refine Zaq ?_
   refine Zc0 ?_
   repeat (first|refine ZdT ?_|refine ZdX ?_|refine ZcX ?_)
   have hQ:Q (.tup [.nils,nt 2]):=by rw[←eQ];exact⟨N,p,hE, .inr (.inl ⟨hz,by have:=of_decide_eq_true h1;omega,rfl⟩)⟩
   exact hQ
  |false=>
   have hpW:W≤p.length:=by have:=of_decide_eq_false h1;omega
   have hQ:Q (.tup [.v (.l qct) (Zc6 W fun i=>N i W),nt 1]):=by rw[←eQ];exact⟨N,p,hE, .inr (.inr ⟨hz,hpW,rfl⟩)⟩
   have hmk2:(0:Int)≤(W:Int)∧(W:Int)≤(W:Int)∧(64:Int)*(W:Int)≤281474976710656∧(W:Int)<9223372036854775808:=by omega
   refine Zak (Zak (Zau Zaa ?_))
   refine Zas ?_
   iterate 4 refine Zad ?_
   refine Zaq ?_
   refine Zau Zaa ?_
   refine brF h1 ?_
   refine CodeOK.ent (tm':=[(6,nt W),(9, .v (.l (.l qct)) (Zbo n (W+1) N))]) (hp':=[]) ?_ (Zap ⟨rfl,rfl,trivial⟩)
   refine Zak (Zau Zaa ?_)
   refine Zas ?_
   refine Zad ?_
   refine Zag rfl (And.intro hmk2 ?_)
   refine Zab rfl rfl ?_
   refine Zad ?_
   refine Zaq ?_
   refine Zak (Zak (Zau Zaa ?_))
   refine Zas ?_
   iterate 3 refine Zad ?_
   refine Zaq ?_
   refine Zbi rfl (ZbV ?_)
   refine((lsC n W N hn (by omega)).ent ?_).mono ?_
   ·exact Ent.eqs (congrArg (fun x=> [SM.row qct x true]) ZwA) (Zap ⟨rfl,rfl,rfl,rfl,rfl,trivial⟩)
   rintro _ tm hp ⟨rfl,hE3⟩
   refine CodeOK.ent ?_ hE3
   refine Zak (Zau Zaa ?_)
   refine Zas ?_
   iterate 3 refine Zad ?_
   refine Zaq ?_
   refine Zau Zaa ?_
   refine Zc0 ?_
   have hx2:ZdB [.row qct (Zc6 W fun i=>N i W) true] (37+2) (.ref 0 0 W none) (fun V=>Q (.tup [V,nt 1])):=by
    refine ZkI (ct:=qct) rfl (by rw[Zbl];omega) ?_
    rw[ZpI Zbl]
    exact hQ
   exact hx2
 ·refine⟨_,_,hE2, ?_⟩
  have hQ:Q (.tup [.nils,nt 0]):=by rw[←eQ];exact⟨N,p,hE, .inl ⟨hx,rfl⟩⟩
  exact hQ
end Go.Proofs.YtdnodlkdndfplaaGreatDoor
