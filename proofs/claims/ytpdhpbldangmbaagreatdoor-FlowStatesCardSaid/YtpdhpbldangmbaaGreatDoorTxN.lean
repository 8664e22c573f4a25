/- Results that are own memory with rows that lead to others (cells, rows of rows). -/
import Derived.Test.YtpdhpbldangmbaaGreatDoorTxA
set_option linter.all false
set_option maxHeartbeats 32000000
set_option maxRecDepth 100000
open Go.IntKind(i64 u64)
def cI {a b:Int} (h:a=b):some (Go.Tx.SV.v (.i .i64) a)=some (Go.Tx.SV.v (.i .i64) b):=congrArg (λx=>some (Go.Tx.SV.v (.i .i64) x)) h
def cB {a b:Bool} (h:a=b):Go.Tx.SV.v .b a=Go.Tx.SV.v .b b:=congrArg (λx=>Go.Tx.SV.v .b x) h
namespace Go.Tx
open Go.Am
def okW:SV->Bool
 | .v _ _| .nilp| .nils| .nilf| .nili| .ref _ _ _ _| .ptr _ _ _=>true
 |_=>false
def idW:SV->List Nat
 | .ref id _ _ _=> [id]
 | .ptr id _ _=> [id]
 |_=> []
def ZKu:SM->List Nat
 | .cell cs _=>cs.flatMap idW
 | .many _ j _=>j.flatMap idW
 |_=> []
def ZLI:SM->Bool
 | .row _ _ _| .dead=>true
 | .cell cs _=>cs.all okW
 | .many _ j _=>j.all okW
 | .set _| .im _ _=>false
structure ImpW (Vs:List SV) (hp:List SM):Prop where
 ok: ∀V∈Vs,okW V=true
 row: ∀ (j:Nat) (m:SM),hp[j]? =some m->ZLI m=true/\(live m=true->j∈Vs.flatMap idW\/ ∃r∈Vs.flatMap idW,∃x,hp[r]? =some x/\j∈ZKu x)
 root: ∀j∈Vs.flatMap idW,∃m,hp[j]? =some m/\live m=true
 ref: ∀ (j:Nat) (m:SM),hp[j]? =some m-> ∀i∈ZKu m,∃x,hp[i]? =some x/\live x=true
def ZwP (Q:SV->List SM->Bool->Prop) (V:SV) (hp:List SM):Prop:=
 ∃V' hp',Ent 0 (ZcQ 0 (Zer V)) hp (ZcQ 0 (Zer V')) hp'/\((Zer V).length=(Zer V').length/\Zcd V=Zcd V'/\ImpW (Zer V') hp')/\Q V' hp' false
section
variable {φ:Ph} {H:List Mem} {hp:List SM}
def ZlG {q} (h:Zeg q=true) ids:ren ids q=q:=by cases q<;>simp[Zeg]at h<;>first|rfl|(cases h;done)
def ZEY {V q} (U:okW V=true) (C:RV φ V q):Zb1 q=true/\(∀i,i∈ZcP q<-> ∃id∈idW V,φ[id]? =some (some i))/\ ∀ids base,RV (φ.map (Option.map λa=>base+pos a ids)) V (sh base (ren ids q))/\Zb1 (ren ids q)=true:=by
 have none_: ∀W,idW W=[]-> ∀i,i∈([]:List Nat)<-> ∃id∈idW W,φ[id]? =some (some i):=λW h i=>by grind
 have at_: ∀ {id a:Nat},φ[id]? =some (some a)-> ∀i,i∈ [a]<-> ∃x∈ [id],φ[x]? =some (some i):=λ{id a} h i=>by grind
 cases V<;>first|(cases U;done)|skip
 case v t x=>
  have hp:Zeg q=true:=by simp[RV]at C;exact C.plain q sM
  let⟨_,J,R,h4⟩:=ZdY hp
  refine⟨J,λi=>by rw[h4];exact none_ _ rfl i,λids base=> ?_⟩
  rw[ZlG hp,R]
  exact⟨by simpa only[RV]using C,J⟩
 case nilp=>simp[RV]at C;subst C;exact⟨rfl,none_ _ rfl,λids base=>⟨by simp[RV];rfl,rfl⟩⟩
 case nils=>simp[RV]at C;subst C;exact⟨rfl,none_ _ rfl,λids base=>⟨by simp[RV];rfl,rfl⟩⟩
 case nilf=>simp[RV]at C;subst C;exact⟨rfl,none_ _ rfl,λids base=>⟨by simp[RV];rfl,rfl⟩⟩
 case nili=>simp[RV]at C;subst C;exact⟨rfl,none_ _ rfl,λids base=>⟨by simp[RV];rfl,rfl⟩⟩
 case ref id j n m=>
  simp[RV]at C
  rcases C with⟨a,I,rfl⟩|⟨I,rfl,J⟩
  ·refine⟨rfl,at_ I,λids base=>⟨?_,rfl⟩⟩
   simp only[RV]
   exact .inl ⟨base+pos a ids,by rw[XaD,I];rfl,rfl⟩
  ·refine⟨rfl,λi=>⟨λh=>absurd h Xaq, ?_⟩,λids base=>⟨?_,rfl⟩⟩
   ·rintro⟨x,hx,R⟩
    rw[Xav.1 hx,I]at R
    cases R
   ·simp only[RV]
    exact .inr ⟨by rw[XaD,I];rfl,rfl,J⟩
 case ptr id i r=>
  simp[RV]at C
  obtain⟨a,I,rfl⟩:=C
  refine⟨rfl,at_ I,λids base=>⟨?_,rfl⟩⟩
  simp only[RV]
  exact⟨base+pos a ids,by rw[XaD,I];rfl,rfl⟩
def Zkp: ∀ {l:List SV} {j:List PV},(∀V∈l,okW V=true)->RL φ l j->(∀q∈j,Zb1 q=true)/\(∀i,i∈j.flatMap ZcP<-> ∃id∈l.flatMap idW,φ[id]? =some (some i))/\ ∀ids base,RL (φ.map (Option.map λa=>base+pos a ids)) l (j.map λq=>sh base (ren ids q))/\ ∀q∈j,Zb1 (ren ids q)=true
 | [],j,_,h=>by simp[RL]at h;subst h;simp[RL]
 |V::l,j,C,I=>by obtain⟨q,r,rfl,J,R⟩:=I;(let⟨g1,g2,g3⟩:=ZEY (C V Xah) J);(let⟨f1,f2,f3⟩:=Zkp (λV h=>C V (Xai _ h)) R);refine⟨λx hx=> ?_,λi=> ?_,λids base=>⟨?_,λx hx=> ?_⟩⟩;grind;grind;simp only[RL];exact⟨_,_,rfl,(g3 ids base).1,(f3 ids base).1⟩;rcases XaF.1 hx with rfl|hx;exact(g3 ids base).2;exact(f3 ids base).2 x hx
def Zu4: ∀ {j:List SV} {es:List (List PV)},(∀V∈j,okW V=true)->All2 (λV c=> ∃q,c=[q]/\RV φ V q) j es-> ∃C,es=C.map (λq=> [q])/\RL φ j C
 | [],[],_,_=>⟨[],rfl,by simp[RL]⟩
 |V::j,c::es,I,⟨⟨q,e,J⟩,R⟩=>by(let⟨C,U,h5⟩:=Zu4 (λV h=>I V (Xai _ h)) R);exact⟨q::C,by rw[e,U];rfl,by simp only[RL];exact⟨_,_,rfl,J,h5⟩⟩
def Zy0: ∀ {j:List SV} {C:List PV},RL φ j C->All2 (λV c=> ∃q,c=[q]/\RV φ V q) j (C.map λq=> [q])
 | [],C,h=>by simp only[RL]at h;subst h;trivial
 |V::j,C,h=>by simp only[RL]at h;obtain⟨q,r,rfl,I,J⟩:=h;exact⟨⟨q,rfl,I⟩,Zy0 J⟩
def ZDb {L i m} (hm:ZLI m=true) (hl:live m=true) (J:RM φ L (some i) m): ∃es z b,L i=some (.row es z b)/\(∀c∈es,∀q∈c,Zb1 q=true)/\(∀a,a∈es.flatMap (λc=>c.flatMap ZcP)<-> ∃id∈ZKu m,φ[id]? =some (some a))/\
 ∀ids base (L':Nat->Option Mem),L' (base+pos i ids)=some (.row (es.map λc=>c.map λq=>sh base (ren ids q)) z b)->RM (φ.map (Option.map λa=>base+pos a ids)) L' (some (base+pos i ids)) m/\ ∀c∈es,∀q∈c,Zb1 (ren ids q)=true:=by
 cases m with
 |row t l b=>simp only[RM]at J;(let⟨es,I,h1,R,h3⟩:=J);have hp:=RRs.plain R;refine⟨es,t.w,I,h1,λc C q j=>(ZdY (hp c C q j)).2.1,λa=>⟨λh=> ?_,λ⟨_,h,_⟩=>absurd h Xaq⟩,λids base L' U=>⟨?_,λc C q j=> ?_⟩⟩;(let⟨c,C,h⟩:=Xbg.1 h);(let⟨q,j,h⟩:=Xbg.1 h);rw[(ZdY (hp c C q j)).2.2.2]at h;grind;simp only[RM];have e:(es.map λc=>c.map λq=>sh base (ren ids q))=es:=(by(conv=>rhs;rw[<-List.map_id es]);refine Xbr λc C=> ?_;(conv=>rhs;rw[id,<-List.map_id c]);exact Xbr λq j=>by rw[ZlG (hp c C q j),(ZdY (hp c C q j)).2.2.1];rfl);rw[e]at U;exact⟨es,I,U,R,h3⟩;rw[ZlG (hp c C q j)];exact(ZdY (hp c C q j)).2.1
 |cell cs b=>simp only[RM]at J;(let⟨a,aa,I,h0,h1,R,h3⟩:=J);cases h0;(let⟨g1,g2,g3⟩:=Zkp (λV h=>XaH.1 hm V h) R);refine⟨[aa],_,I,h1,λc C q j=>by rw[Xav.1 C]at j;exact g1 q j,λa=> ?_,λids base L' U=>⟨?_,λc C q j=>by rw[Xav.1 C]at j;exact(g3 ids base).2 q j⟩⟩;rw[Xbn,List.flatMap_nil,XaQ];exact g2 a;simp only[RM];refine⟨_,_,I,rfl, ?_,(g3 ids base).1,h3⟩;rw[U,Xar];rfl
 |many ct ab b=>
  simp only[RM]at J;(let⟨es,I,h1,R,h3⟩:=J);obtain⟨qs,rfl,h4⟩:=Zu4 (λV h=>XaH.1 hm V h) R;(let⟨g1,g2,g3⟩:=Zkp (λV h=>XaH.1 hm V h) h4);have one: ∀c∈qs.map (λq=> [q]),∀q∈c,q∈qs:=λc C q j=>by obtain⟨x,hx,rfl⟩:=XaT.1 C;rw[Xav.1 j];exact hx
  refine⟨_,1,I,h1,λc C q j=>g1 q (one c C q j),λa=> ?_,λids base L' U=>⟨?_,λc C q j=>(g3 ids base).2 q (one c C q j)⟩⟩;(·have e:(qs.map λq=> [q]).flatMap (λc=>c.flatMap ZcP)=qs.flatMap ZcP:=(by rw[List.flatMap_map];congr 1;funext q;rw[Xbn,List.flatMap_nil,XaQ]);rw[e];exact g2 a);simp only[RM];refine⟨_,I,U, ?_,h3⟩;have:=Zy0 (g3 ids base).1;rw[XbG]at this|-;exact this
 |_=>first|(cases hl;done)|(cases hm;done)
def Zq2: ∀ {xs ids:List Nat},(∀x∈xs,x∈ids)->xs.foldl Zcl ids=ids
 | [],_,_=>rfl
 |x::r,ids,h=>by have e:Zcl ids x=ids:=(by unfold Zcl;rw[if_pos (List.contains_iff_mem.2 (h x Xah))]);rw[List.foldl_cons,e];exact Zq2 λy j=>h y (Xai _ j)
def Zte {xs ids:List Nat} (hn:ids.Nodup) i:i∈xs.foldl Zcl ids<->i∈ids\/i∈xs:=
 ⟨Zyo,λh=>h.elim ((Zc3 xs ids hn).2.1 i) ((Zc3 xs ids hn).2.2 i)⟩
theorem ZqG {q} (h:ZhW q=true):ZcP q=[]/\ ∀ids,Zb1 q=true->ren ids q=q:=by
 have one: ∀cs:List PV,(cs.all λc=>match c with| .ref _ _ _ _| .ptr _ _ _| .map _| .agg _| .tup _| .func _ _ _=>false|_=>true)=true->cs.flatMap Zf4=[]/\ ∀ids,cs.map (Zvq ids)=cs:=by intro cs;induction cs with|nil=>intro _;exact⟨rfl,λ_=>rfl⟩|cons c r j=>intro h;rw[List.all_cons,Xas]at h;(let⟨g1,g2⟩:=j h.2);rw[Xbn,g1];cases c<;>first|(cases h.1;done)|exact⟨rfl,λids=>by rw[Xbm,g2];rfl⟩
 cases q<;>first
  |(cases h;done)
  |exact⟨rfl,λ_ _=>rfl⟩
  |skip
 case func f a c=>
  simp[ZhW,Xas]at h
  obtain⟨rfl,rfl⟩:=h
  exact⟨rfl,λ_ _=>rfl⟩
 case agg cs=>
  let⟨g1,g2⟩:=one cs h
  exact⟨g1,λids _=>by rw[ren,g2]⟩
def ZAh {es z b} (ho: ∀c∈es,∀q∈c,Zb1 q=true) ids:(∀a,a∈ZpE (.row es z b)<->a∈es.flatMap λc=>c.flatMap ZcP)/\okM (.row es z b)=true/\ZsS ids (.row es z b)= .row (es.map λc=>c.map (ren ids)) z b:=by
 cases hf:Zmf (.row es z b)with
 |true=>
  have hn: ∀c∈es,∀q∈c,ZhW q=true:=λc j q C=>XaH.1 (XaH.1 hf c j) q C
  refine⟨λa=> ?_,by simp[okM,hf], ?_⟩;grind [ZAK,ZqG];·simp[ZsS,hf];congr 1;(conv=>lhs;rw[<-List.map_id es]);refine Xbr λc j=> ?_;(conv=>lhs;rw[id,<-List.map_id c]);exact Xbr λq C=>((ZqG (hn c j q C)).2 ids (ho c j q C)).symm
 |false=>grind [ZpE,ZsS,okM]
def ZBO {P h f qs v V Q} (bl:(lim P h).rn f qs []=some (v,H)) (hh:RH φ hp (λa=>H[a]?)) (hv:RV φ V v) (hk:ZwP Q V hp) base:
 ∃v rows sf φ V hp az,Ze8 (lim P h) f qs base=some (v,rows,sf)/\RV φ V v/\RH φ hp (λa=>if base<=a then rows[a-base]? else none)/\(az=true->sf=true)/\Q V hp az:=by
 let⟨V',hp',a1,⟨hlen,al,hW⟩,hQ⟩:=hk
 let⟨ab,a6,a7⟩:=ZCx hv
 let⟨ψ,_,hs⟩:=a1.out φ ⟨enterT 0 (Zcr v),H⟩ (Xak _) ⟨Zft ab,hh⟩
 have bm:RL ψ (Zer V') (Zcr v):=by refine Zrl (by rw[<-hlen];exact ab.len) λi W hW=> ?_;(let⟨q,C,I⟩:=hs.tm i W (by have:=ZmI (Zer V') 0 i;rw[Xag]at this;rw[this];exact hW));have J:=Zi1 (Zcr v) 0 i;rw[Xag]at J;exact⟨q,by rw[<-J];exact C,I⟩
 have aa:=hs.hp;let⟨a8,ba,ae⟩:=Zkp hW.ok bm
 have ai:((enterT 0 (Zcr v)).flatMap λx=>ZcP x.2)=(Zcr v).flatMap ZcP:=by have:=Zc9 (Zcr v) 0;(conv=>rhs;rw[<-this]);rw[List.flatMap_map]
 have an: ∀x∈enterT 0 (Zcr v),x.2∈Zcr v:=λx hx=>by have:=List.mem_map_of_mem (f:=λy:Nat×PV=>y.2) hx;rwa[Zc9]at this
 have ao: ∀ (j i:Nat) (m:SM),hp'[j]? =some m->live m=true->ψ[j]? =some (some i)->_:=λj i m C I J=>ZDb (hW.row j m C).1 I (aa.row _ _ _ C J)
 let⟨af,e0⟩: ∃ids,ZLO (enterT 0 (Zcr v))=ids:=⟨_,rfl⟩
 have aj: ∀i,i∈af<-> ∃j∈(Zer V').flatMap idW,ψ[j]? =some (some i):=λi=>by rw[<-ba i,<-e0,ZLO,ai,Zte List.nodup_nil];exact⟨λh=>h.elim (λh=>absurd h Xaq) id, .inr⟩
 have bb:af.Nodup:=by rw[<-e0];exact(Zc3 _ [] List.nodup_nil).1
 have aq: ∀ (j i:Nat) (m:SM),hp'[j]? =some m->live m=true->ψ[j]? =some (some i)-> ∀a,a∈ZrM H i<-> ∃id∈ZKu m,ψ[id]? =some (some a):=λj i m C I J a=>by(let⟨es,z,b,g1,g2,g3,_⟩:=ao j i m C I J);rw[ZuF,g1,Zrj,(ZAh g2 []).1 a];exact g3 a
 let⟨ids,e1⟩: ∃ids,ZeX H af=ids:=⟨_,rfl⟩
 have R: ∀i,i∈ids<-> ∃j m,hp'[j]? =some m/\live m=true/\ψ[j]? =some (some i):=λi=>by rw[<-e1,ZeX,Zte bb];constructor;rintro(h|h);(let⟨j,C,I⟩:=(aj i).1 h);(let⟨m,J,U⟩:=hW.root j C);exact⟨j,m,J,U,I⟩;(let⟨k,hk,h⟩:=Xbg.1 h);(let⟨r,C,I⟩:=(aj k).1 hk);(let⟨m,J,U⟩:=hW.root r C);(let⟨j,h5,h6⟩:=(aq r k m J U I i).1 h);(let⟨x,h7,h8⟩:=hW.ref r m J j h5);exact⟨j,x,h7,h8,h6⟩;rintro⟨j,m,C,I,J⟩;rcases(hW.row j m C).2 I with h|⟨r,hr,x,U,h5⟩;exact .inl ((aj i).2 ⟨j,h,J⟩);(let⟨y,h6,h7⟩:=hW.root r hr);rw[U]at h6;cases h6;have bn:=(Xaf.1 U).1;(let⟨o,ho⟩: ∃o,ψ[r]? =some o:=⟨_,Xac (by rw[aa.len];exact bn)⟩);cases o with|none=>(have ak:=aa.row _ _ _ U ho;cases x with|cell cs b=>simp only[RM]at ak;let⟨_,_,_,h,_⟩:=ak;cases h|many ct bo b=>simp at ak;subst ak;exact absurd h5 Xaq|_=>exact absurd h5 Xaq)|some k=>exact .inr (Xbg.2 ⟨k,(aj k).2 ⟨r,hr,ho⟩,(aq r k x U h7 ho i).2 ⟨j,h5,J⟩⟩)
 have bc: ∀i∈ids,∀a∈ZrM H i,a∈ids:=λi hi a ha=>by(let⟨j,m,C,I,J⟩:=(R i).1 hi);(let⟨k,U,h5⟩:=(aq j i m C I J a).1 ha);(let⟨x,h6,h7⟩:=hW.ref j m C k U);exact(R a).2 ⟨k,x,h6,h7,h5⟩
 have ag:ZeX H ids=ids:=Zq2 λx hx=>by(let⟨i,hi,h⟩:=Xbg.1 hx);exact bc i hi x h
 let⟨g,hg⟩: ∃g:Nat->Option Mem,(λi=>(H[i]?).bind λm=>if(okM m&&(ZpE m).all ids.contains)=true then some (ZsS ids m)else none)=g:=⟨_,rfl⟩
 have ar: ∀i∈ids,∃ (j:Nat) (m:SM) (es:List (List PV)) (z:Nat) (b:Bool),hp'[j]? =some m/\live m=true/\ψ[j]? =some (some i)/\g i=some (.row (es.map λc=>c.map (ren ids)) z b)/\(∀c∈es,∀q∈c,Zb1 (ren ids q)=true)/\
  ∀L',L' (base+pos i ids)=some (.row (es.map λc=>c.map λq=>sh base (ren ids q)) z b)->RM (ψ.map (Option.map λa=>base+pos a ids)) L' (some (base+pos i ids)) m:=λi hi=>by
  (let⟨j,m,C,I,J⟩:=(R i).1 hi);(let⟨es,z,b,g1,g2,_,g4⟩:=ao j i m C I J);(let⟨_,k2,k3⟩:=ZAh (z:=z) (b:=b) g2 ids);refine⟨j,m,es,z,b,C,I,J, ?_,(g4 ids base (λ_=>some (.row (es.map λc=>c.map λq=>sh base (ren ids q)) z b)) rfl).2,λL' hL=>(g4 ids base L' hL).1⟩;rw[<-hg];show(H[i]?).bind _=_;have g1:=g1;rw[g1,Xad,k2,Bool.true_and,if_pos ?_,k3];rw[XaH];intro a ha;refine List.contains_iff_mem.2 (bc i hi a ?_);rw[ZuF,g1,Zrj];exact ha
 let⟨Hc,au⟩: ∃Hc,Za3 g ids=some Hc:=by
  have: ∀l,(∀i∈l,i∈ids)-> ∃Hc,Za3 g l=some Hc:=by intro l;induction l with|nil=>intro _;exact⟨[],rfl⟩|cons i r ih=>intro hl;(let⟨Hr,hr⟩:=ih λx hx=>hl x (Xai _ hx));(let⟨_,_,es,z,b,_,_,_,U,_⟩:=ar i (hl i Xah));exact⟨_,by rw[Zbn,hr,U];rfl⟩
  exact this ids λ_ h=>h
 have av:Zfh (enterT 0 (Zcr v)) H=some ⟨(enterT 0 (Zcr v)).map λx=>(x.1,ren ids x.2),Hc⟩:=by rw[Zsy,e0,e1,ag,ag];unfold Zt7;rw[if_pos ?_,hg,au];rfl;rw[XaH];exact λx hx=>a8 x.2 (an x hx)
 have aw:((enterT 0 (Zcr v)).map λx=>(x.1,ren ids x.2)).map (λy=>sh base y.2)=(Zcr v).map λq=>sh base (ren ids q):=by have:=Zc9 (Zcr v) 0;rw[XbG];(conv=>rhs;rw[<-this]);rw[XbG];rfl
 have bf:((((enterT 0 (Zcr v)).map λx=>(x.1,ren ids x.2)).all λy=>Zb1 y.2)&&Hc.all ZHA)=true:=by rw[Xas,XaH,XaH];refine⟨λy hy=> ?_,λm hm=> ?_⟩;obtain⟨x,hx,rfl⟩:=XaT.1 hy;exact(ae ids base).2 x.2 (an x hx);(let⟨i,hi,C⟩:=Znw au m hm);(let⟨_,_,es,z,b,_,_,_,U,h5,_⟩:=ar i hi);rw[U]at C;cases C;simp only[ZHA,XaH];intro c hc q hq;obtain⟨c',bp,rfl⟩:=XaT.1 hc;obtain⟨q',bq,rfl⟩:=XaT.1 hq;exact h5 c' bp q' bq
 have ah:=(ae ids base).1;refine⟨ZjX v ((Zcr v).map λq=>sh base (ren ids q)),Hc.map (shM base),(((enterT 0 (Zcr v)).map λx=>(x.1,ren ids x.2)).all λy=>ZgU y.2)&&Hc.all ZsE,ψ.map (Option.map λa=>base+pos a ids),V',hp',false, ?_, ?_,⟨by simp[aa.len], ?_, ?_⟩,sM,hQ⟩;simp only[Ze8,bl,Xad,av];rw[if_pos bf,aw];cases hn:Zcd V' with
  |true=>have ax:Zcd V=true:=(by rw[al,hn]);(have hp1:Zer V'=[V']:=by cases V'<;>first|rfl|cases hn);rw[hp1]at ah;(let⟨q,C,I⟩:=RL1 ah);rw[C,a6 ax];exact I
  |false=>
   have ax:Zcd V=false:=(by rw[al,hn]);rw[a7 ax];cases V'<;>first
    |cases hn
    |skip
   simp only[RV];exact⟨_,rfl,ah⟩
 ·intro j m o hm ho;by_cases hl:live m=true;(·rw[XaD]at ho;obtain⟨o',ad,rfl⟩:=ZHD ho;cases o' with|none=>(have hr:=aa.row _ _ _ hm ad;cases m with|cell cs b=>simp only[RM]at hr;let⟨_,_,_,h,_⟩:=hr;cases h|row t l b=>simp[Option.map_none]at hr|-;exact hr|many ct bo b=>simp[RM,Option.map_none]at hr|-;exact hr|dead=>trivial|_=>exact absurd (hW.row j _ hm).1 (by simp[ZLI]))|some i=>have hi:=(R i).2 ⟨j,m,hm,hl,ad⟩;(let⟨j',m',es,z,b,C,I,J,U,_,h6⟩:=ar i hi);have bs:j'=j:=(by apply Classical.byContradiction;intro ay;exact aa.inj _ _ _ _ _ ay C hm I hl J ad);subst bs;rw[C]at hm;cases hm;refine h6 _ ?_;show(if base<=base+pos i ids then(Hc.map (shM base))[base+pos i ids-base]? else none)=_;rw[if_pos oM,show base+pos i ids-base=pos i ids from by omega,XaD,(Zr4 au).2,ZlV hi,Xad,U];simp only[Xau,shM,XbG];congr 2;refine Xbr λc _=> ?_;show(c.map (ren ids)).map (sh base)=_;rw[XbG];rfl);cases m with|dead=>trivial|_=>exact absurd rfl hl
 intro j j' m m' a ay hm bg hl bh ho ad;rw[XaD]at ho ad;let⟨o,C,I⟩:=ZHD ho
 let⟨o',bj,bk⟩:=ZHD ad
 cases o with|none=>cases I|some x=>cases o' with|none=>cases bk|some x'=>simp[Xau,Xaj]at I bk;have e1:=ZlV ((R x).2 ⟨j,m,hm,hl,C⟩);have e2:=ZlV ((R x').2 ⟨j',m',bg,bh,bj⟩);rw[show pos x ids=pos x' ids from by omega]at e1;rw[e1]at e2;cases e2;exact aa.inj _ _ _ _ _ ay hm bg hl bh C bj
def Zb2 {P h T} (hT:TysOK P T) {f fn Vs Q} (hf:P.funcs[f]? =some fn)
 (hw:CodeOK P h 0 ⟨f,0,fn.ntmps⟩ (bodyOf fn) (ZcQ 0 Vs) [] (ZjR T fn.results.toList λV hp=>ZwP Q V hp))
 (j:h.ok f=true:=by kernel_rfl) (hb:fn.body=some (bodyOf fn):=by kernel_rfl) (hn:Vs.length<=fn.ntmps:=by exact Xam (by kernel_rfl)):ImpOK P h f Vs Q:=by
 refine⟨λJ R base=> ?_⟩;let⟨e,C,φ',tm',hp',h1,h2,U,h4⟩:=hw.out [] ⟨enterT 0 J,[]⟩ (Xak _) ⟨Zft R,RH.empty⟩
 let⟨v,V,h5,h6,h7⟩:=ZoY hT U h4
 have I:(lim P h).rn f J []=some (v,C.hp):=by refine ZuP j hf hb (by rw[<-R.len];exact hn) ?_;grind
 exact ZBO I U.hp h6 h7 base
end
mutual
theorem ZJz (b:Nat): ∀V:SV,shS b V=rnV (λj=>b+j) V
 | .ref _ _ _ _| .ptr _ _ _| .v _ _| .nilp| .nils| .nilf| .nili| .nilmp| .box _ _ _| .mp _=>rfl
 | .func f a c=>by rw[shS,rnV,shL_rn b a,shL_rn b c]
 | .agg cs=>by rw[shS,rnV,shL_rn b cs]
 | .tup vs=>by rw[shS,rnV,shL_rn b vs]
theorem shL_rn (b:Nat): ∀l:List SV,shL b l=rnL (λj=>b+j) l
 | []=>rfl
 |V::r=>by rw[shL,rnL,ZJz b V,shL_rn b r]
end
def ZKd b m:shH b m=rnM (λj=>b+j) m:=by cases m<;>simp[shH,rnM,shL_rn]
def ZED {tm tm' hp0 hp1 b} (R:b=hp0.length) (I:ZrG (λj=>b+j) hp1.length tm tm') (C: ∀ (j:Nat) (m:SM),hp1[j]? =some m-> ∀id∈Zd0 m,id<hp1.length):Ent 0 tm (hp0++ZwY b hp1) tm' hp1:=by
 have hl:(hp0++ZwY b hp1).length=b+hp1.length:=by rw[Xal,Zoc,Xar,R]
 refine ZdZ (λj=>b+j) (Xak _) (λj J=>absurd J (XaS j)) (λj J=>by rw[hl];exact Nat.add_lt_add_left J b) (λi j _ _ h=>Nat.add_left_cancel h) I λj m hm=> .inr ⟨?_,C j m hm⟩;rw[Xaw oM,<-R,Xbe,Zoc,XaD,hm,Xau,ZKd]
def Zz3 {tm tm' C ex} (J: ∀m∈C,∀id∈Zd0 m,id<C.length) (I:ZrG id C.length tm tm'):Ent 0 tm (C++ex) tm' C:=by refine ZdZ id (Xak _) (λ_ _=>rfl) (λj R=>by rw[Xal];exact XaW R (Nat.le_add_right _ _)) (λi j _ _ h=>h) I λj m hm=> ?_;have h:=J m (XaC hm);refine .inr ⟨?_,h⟩;rw[Zjz (f:=id) (λ_ _=>rfl) m h];grind
def Zfq {P:Program} {h:Hints} {T:TypeId->TI} {tm:TM} {hp:List SM} {op:Op} {c:Call} {f:FuncId} {V W:SV} {k:SV->List SM->Prop} (ho:op= .call c) (j:c.callee= .value (.func f)) (C:evL tm c.args.toList=some [V,W]) (I:h.opn f=false) (J:h.imp f=true) (he:ZbS hp 40 V λv=>ZbS hp 40 W λw=>ImpOK P h f [v,w] λR hn U=>k (shS hp.length R) ((match U with|true=>hp|false=>frzT hp (ZdC hp [V,W]))++ZwY hp.length hn)):opT P h T op tm hp k:=by subst ho;simp[opT,Zhd,C,j,evS,ZbY,I,J,ZDV,Zdj];exact he
def ZlE {α:Type} {j:Nat}: ∀ {xs:List (List α)} {p:Nat},j∈(Zax p xs).flatMap idW<->p<=j/\j<p+xs.length
 | [],p=>⟨λh=>absurd h Xaq,λh=>by simp only[Xbq]at h;omega⟩
 |x::r,p=>by rw[Zax,Xbn,XaO,ZlE,Xao];show j∈ [p]\/_<->_;rw[Xav];omega
def Zur {α:Type}: ∀ {xs:List (List α)} {p:Nat},(Zax p xs).all okW=true
 | [],_=>rfl
 |x::r,p=>by rw[Zax,List.all_cons,Zur];rfl
def ZBW {ct:CT} {xs:List (List ct.D)} {ex:List SM} {Vs:List SV} (hV: ∀V∈Vs,okW V=true) (J:0∈Vs.flatMap idW) (hex: ∀ (e:Nat) (m:SM),ex[e]? =some m->(∃t l b,m= .row t l b)/\xs.length+1+e∈Vs.flatMap idW) (hr: ∀j∈Vs.flatMap idW,j<xs.length+1+ex.length):
 ImpW Vs (.many (.l ct) (Zax 1 xs) true::([]++(ZaP ct xs++ex))):=by
 have cls: ∀ (j:Nat) (m:SM),(SM.many (.l ct) (Zax 1 xs) true::([]++(ZaP ct xs++ex)))[j]? =some m->(j=0/\m= .many (.l ct) (Zax 1 xs) true)\/(1<=j/\j<1+xs.length/\ ∃t l b,m=SM.row t l b)\/((∃t l b,m=SM.row t l b)/\j∈Vs.flatMap idW):=λj m hm=>by cases j with|zero=>cases hm;exact .inl ⟨rfl,rfl⟩|succ j=>right;rw[XaV,Xba]at hm;by_cases I:j<xs.length;rw[Xan (by rw[Zal];exact I),Zb3 I]at hm;grind;rw[Xaw (by rw[Zal];omega),Zal]at hm;grind
 have C: ∀j,j<xs.length+1+ex.length-> ∃m,(SM.many (.l ct) (Zax 1 xs) true::([]++(ZaP ct xs++ex)))[j]? =some m/\live m=true:=λj I=>by have hl:j<(SM.many (.l ct) (Zax 1 xs) true::([]++(ZaP ct xs++ex))).length:=(by simp[Xao,Xba,Xal,Zal];omega);refine⟨_,Xac hl, ?_⟩;rcases cls j _ (Xac hl)with⟨_,h⟩|⟨_,_,_,_,_,h⟩|⟨⟨_,_,_,h⟩,_⟩<;>rw[h]<;>rfl
 refine⟨hV,λj m hm=> ?_,λj I=>C j (hr j I),λj m hm i hi=> ?_⟩;rcases cls j m hm with⟨rfl,rfl⟩|⟨R,U,_,_,_,rfl⟩|⟨⟨_,_,_,rfl⟩,h⟩;exact⟨Zur,λ_=> .inl J⟩;exact⟨rfl,λ_=> .inr ⟨0,J,_,rfl,ZlE.2 ⟨R,U⟩⟩⟩;exact⟨rfl,λ_=> .inl h⟩;rcases cls j m hm with⟨rfl,rfl⟩|⟨R,U,_,_,_,rfl⟩|⟨⟨_,_,_,rfl⟩,h⟩;have:=ZlE.1 hi;exact C i oM;exact absurd hi Xaq;exact absurd hi Xaq
def ZsQ {ct:CT} {l:List ct.D} {N:Nat}:ImpW [.ref 0 0 N none] [.row ct l true]:=by
 refine⟨λV I=>by rw[Xav.1 I];rfl,λj m hm=> ?_,λj C=> ?_,λj m hm i hi=> ?_⟩;match j with|0=>cases hm;exact⟨rfl,λ_=> .inl Xah⟩|_+1=>cases hm
 have C:=Xav.1 C;subst C;exact⟨_,rfl,rfl⟩;match j with|0=>cases hm;exact absurd hi Xaq|_+1=>cases hm
end Go.Tx
namespace Go.Proofs.YtpdhpbldangmbaaGreatDoor
variable {bb:Bool}
open Go.Am Go.Tx
abbrev IC:CT:= .i .i64
abbrev E2:CT:= .p IC IC
abbrev nl (l:List Nat):List Int:=l.map Int.ofNat
abbrev el (l:List (Nat×Nat)):List (Int×Int):=l.map λx=>((x.1:Int),(x.2:Int))
def ZGg (n:Nat) (hn:n<41):PureOK Tryz.prog (Zbg bb) 131 [.v (.i .u64) (1:Int), .v (.i .u64) (n:Int)] (λV=>V= .tup [.v (.i .u64) (0:Int), .v (.i .u64) (n:Int)]):=by refine Zae Zaa Tryz.func131 ?_;refine Xaa (show(0:Int)<=32 by decide) ?_;refine Xaa (show(0:Int)<=32 by decide) ?_;refine Xaa (show(0:Int)<=32 by decide) ?_;refine Xaa (show(0:Int)<=32 by decide) ?_;refine Xaa (show(0:Int)<=32 by decide) ?_;refine congrArg (λx:Int×Int=>SV.tup [.v (.i .u64) x.1, .v (.i .u64) x.2]) (?_:(_,_)=((0:Int),(n:Int)));revert n;decide+kernel
def ZIx (n:Nat) (hn:n<41):PureOK Tryz.prog (Zbg bb) 115 [.v (.i .u64) (1:Int), .v (.i .u64) (n:Int)] (λV=>V= .tup [.v (.i .u64) (0:Int), .v (.i .u64) (n:Int)]):=by refine Zae Zaa Tryz.func115 ?_;refine brF rfl ?_;refine(ZGg (bb:=bb) n hn).mono ?_;rintro _ rfl;rfl
abbrev ZAY (q:Bool):CT:=match q with
 |true=> .p (.p .b (.l (.i .u32))) (.p .b (.l (.i .u32)))
 |false=>IC
def rpF (q:Bool):FuncId:=match q with
 |true=>102
 |false=>97
def Zt9 (q:Bool) (x:(ZAY q).D) (n:Nat) (hn:n<41):ImpOK Tryz.prog (Zbg bb) (rpF q) [.v (.l (ZAY q)) [x], .v (.i .i64) (n:Int)] (λV hp U=>V= .ref 0 0 n none/\hp=[.row (ZAY q) (List.replicate n x) true]/\U=false):=by
 have u1:u64.wrap (n:Int)=(n:Int):=by revert n;decide+kernel
 have u2:i64.wrap (n:Int)=(n:Int):=by revert n;decide+kernel
 have hM:PureOK Tryz.prog (Zbg bb) 115 [.v (.i .u64) (1:Int), .v (.i .u64) (u64.wrap (n:Int))] (λV=>V= .tup [.v (.i .u64) (0:Int), .v (.i .u64) (n:Int)]):=by rw[u1];exact ZIx n hn
 have hb:decide ((9223372036854775807:Int)<(n:Int))=false:=decide_eq_false oM;have cz:0<=i64.wrap (n:Int)/\i64.wrap (n:Int)<=i64.wrap (n:Int)/\(bif q then 64 else 8:Int)*i64.wrap (n:Int)<=281474976710656/\i64.wrap (n:Int)<9223372036854775808:=by rw[u2];cases q<;>simp only[cond_true,cond_false]<;>omega
 have C:(i64.wrap (n:Int)).toNat=n:=by rw[u2,Xab]
 have cl:0+(i64.wrap (n:Int)).toNat<=(List.replicate (i64.wrap (n:Int)).toNat (ZAY q).z).length:=sM;cases q
 all_goals
  first
  |refine Zb2 Zaa Tryz.func97 (Zad Zaa ?_)
  |refine Zb2 Zaa Tryz.func102 (Zad Zaa ?_)
  refine Xaa (λh=> ?_) (λ_=> ?_)
  ·have I:=h
   have:=dT I
   omega
  refine hM.mono ?_
  rintro _ rfl
  refine axT ?_
  refine Zaq Zaa rfl (λ(t:Nat×List (ZAY _).D)=> [(7, .ref 0 0 n none),(8, .v (.i .i64) (t.1:Int))]) (λt=> [.row (ZAY _) t.2 true])
   (λt=>t.2.length=n/\t.1<=n/\t.2.take t.1=List.replicate t.1 x/\(t.1=0->n=0)) (λt=>n-t.1) ?_ (min 1 n,spl (List.replicate n (ZAY _).z) 0 ([x].take n)) ?_ ?_
  ·rintro⟨c,out⟩ ⟨hl,hc,j,h0⟩
   simp only at hl hc j h0
   refine Xaa (λh=> ?_) (λh=> ?_)
   ·have aa:c<n:=by have I:=dT h;omega
    have hs:(sub out (0+0) ((c:Int).toNat-0)).length=c:=by rw[sub,Xaz,XbC];omega
    have J:sub out (0+0) ((c:Int).toNat-0)=List.replicate c x:=by rw[<-j];rfl
    refine Xaa (show(0:Int)<=(c:Int)/\(c:Int)<=((n:Nat):Int)by omega) ?_
    refine Xaa (show(0:Int)<=(c:Int)/\(c:Int)<=((n:Nat):Int)by omega) ?_
    refine Xaa (show 0+0+((c:Int).toNat-0)<=out.length by omega) ?_
    refine Xaa (show 0+(c:Int).toNat+(n-(c:Int).toNat)<=out.length by omega) ?_
    have w:i64.wrap ((c:Int)+((min (sub out (0+0) ((c:Int).toNat-0)).length (n-(c:Int).toNat):Nat):Int))=((c+min c (n-c):Nat):Int):=by
     rw[hs,Xab,Zap oM oM];omega
    refine⟨(c+min c (n-c),spl out (0+(c:Int).toNat) ((sub out (0+0) ((c:Int).toNat-0)).take (n-(c:Int).toNat))), ?_,by show n-(c+min c (n-c))<n-c;omega, ?_⟩
    ·rw[J,Xab,Xag,List.take_replicate]
     have hm:min (n-c) c=min c (n-c):=Nat.min_comm _ _
     refine⟨?_,by show c+min c (n-c)<=n;omega, ?_,λh=>by have h:=h;omega⟩
     ·show(spl out c (List.replicate (min (n-c) c) x)).length=n
      rw[spl,Xal,Xal,Xaz,XbC,XaE]
      omega
     ·show(spl out c (List.replicate (min (n-c) c) x)).take (c+min c (n-c))=List.replicate (c+min c (n-c)) x
      rw[spl,j,<-Xa7,List.replicate_append_replicate,hm,List.take_append_of_le_length (by rw[XaE];omega),List.take_replicate,Nat.min_self]
    ·refine Zbx rfl rfl ?_ ?_
     ·exact⟨⟨rfl,rfl,rfl⟩,w.symm,trivial⟩
     ·exact⟨⟨rfl,λ_=>rfl⟩,trivial⟩
   ·have hcn:c=n:=by have I:=dF h;omega
    have ho:out=List.replicate n x:=by rw[hcn,Xax oM]at j;exact j
    refine⟨.ref 0 0 n none,[.row (ZAY _) (List.replicate n x) true], ?_,⟨rfl,rfl,ZsQ⟩,rfl,rfl,rfl⟩
    refine Zbx rfl rfl ?_ ?_
    ·exact⟨⟨rfl,rfl,rfl⟩,trivial⟩
    ·exact⟨⟨ho.symm,λ_=>rfl⟩,trivial⟩
  ·cases n with
   |zero=>exact⟨rfl,Xae 0,rfl,λ_=>rfl⟩
   |succ n=>
    have R:[x].take (n+1)=[x]:=Xax sM
    rw[R]
    refine⟨?_,show min 1 (n+1)<=n+1 by omega, ?_,λh=>by have h:=h;omega⟩
    ·show(spl (List.replicate (n+1) (ZAY _).z) 0 [x]).length=n+1
     rw[spl,Xal,Xal,Xaz,XbC,XaE]
     simp
     omega
    ·show(spl (List.replicate (n+1) (ZAY _).z) 0 [x]).take (min 1 (n+1))=List.replicate (min 1 (n+1)) x
     rw[show min 1 (n+1)=1 by omega]
     rfl
  ·refine Zbx rfl rfl ?_ ?_
   ·exact⟨⟨rfl,C.symm,C.symm⟩,by rw[C];rfl,trivial⟩
   ·exact⟨⟨by rw[C];rfl,λ_=>rfl⟩,trivial⟩
def Zx0 {P h T tm hp op ct by_ id i n j m2 b pre l x k c t t2 e e2 ts} (ho:op= .call c) (hc:c.callee= .builtin .append) (ha:evL tm c.args.toList=some [.ref id i n none, .ref j 0 1 m2]) (ht:c.argTypes.toList=t::t2::ts) (I:(T t).k= .slice e) (J:(T t2).k= .slice e2) (R:(T e).ct=some ct) (U:(T e).by_=by_) (C:(ZcL (T e).k,Nat.ble 1 (T e).by_&&Nat.ble 1 (T e).sz,h.frz t)=(false,true,false))
 (hn:nth hp id=some (.row ct (pre++l) true)) (aa:nth hp j=some (.row ct [x] b)) (hi:i=pre.length) (hl:n=l.length) (hz:(n+1)*by_<=140737488355328)
 (hk:k (.ref hp.length 0 (n+1) none) (hp.set id .dead++ [.row ct (l++ [x]) true])):opT P h T op tm hp k:=by
 have hg:Zrr ct hp (.ref j 0 1 m2) (λnew=>ZsN ct by_ hp (.ref id i n none) new k):=by refine Zgu aa (Xae 1) (ZhZ hn (by rw[hi,hl,Xal];exact Xae _) hz ?_);grind [sub,List.drop_left]
 simp only[Prod.mk.injEq]at C;let⟨ab,ad,ae⟩:=C
 simp[ho,opT,Zhd,ha,hc,Zfs,ht,I,J,R,ad,ae];subst U;generalize(T e).k=kk at*;cases kk<;>first|(cases ab;done)|exact hg
def ar0:(0:Int)<=0/\0<(2:Int):=dC
def ar1:(0:Int)<=1/\1<(2:Int):=dC
def zO (n:Nat) (wo:Int) (l:List (Nat×Nat)) (m i:Nat):TM:=[(1, .v (.l E2) (el l)),(2, .v IC wo),(7, .ref 0 0 n none),(8,nt m),(18,nt n),(19,nt i)]
def zD (n:Nat) (wo:Int) (l:List (Nat×Nat)) (m i p q:Nat):TM:=(10, .ref 1 p q none)::zO n wo l m i
def zE (n:Nat) (wo:Int) (l:List (Nat×Nat)) (m i at_ p q k:Nat):TM:=(11,nt at_)::(41, .v (.l E2) (el l))::(42,nt l.length)::(43,nt k)::zD n wo l m i p q
def hD (out:List Int) (pre todo:List Nat):List SM:=[.row IC out true, .row IC (nl pre++nl todo) true]
def ZF1 (n:Nat) (hn:n<=24) (wo:Int) (l:List (Nat×Nat)) (aa:okL n l) (hl:l.length<=64) (m i at_:Nat) (ag:at_<n) (out:List Int) (pre todo:List Nat) (ho:out.length=n) (R:cnt out+todo.length<=1000):
 LoopOK Tryz.prog (Zbg bb) 0 ⟨80,0,88⟩ (ZaN Tryz.f80 13) (zE n wo l m i at_ pre.length todo.length 0) (hD out pre todo)
 (λe tm hp=>e= .exit 4/\ ∃j,Ent 0 tm hp (zD n wo l m i j.length (Za9 wo at_ m 0 l out todo).2.length) (hD (Za9 wo at_ m 0 l out todo).1 j (Za9 wo at_ m 0 l out todo).2)):=by
 refine Zaq Zaa rfl (λa=>zE n wo l m i at_ a.2.2.1.length a.2.2.2.length a.1) (λa=>hD a.2.1 a.2.2.1 a.2.2.2) (λa=>a.1<=l.length/\a.2.1.length=n/\cnt a.2.1+a.2.2.2.length<=1000/\Za9 wo at_ m a.1 (l.drop a.1) a.2.1 a.2.2.2=Za9 wo at_ m 0 l out todo) (λa=>l.length-a.1) ?_ (0,out,pre,todo) ⟨Xak _,ho,R,rfl⟩ Zaj;generalize Za9 wo at_ m 0 l out todo=E;clear ho R;clear out pre todo;rintro⟨k,out,pre,todo⟩ ⟨hk,ho,R,hE⟩;simp only at hk ho R hE;cases h1:decide ((k:Int)<((el l).length:Int))with
 |false=>have e:k=l.length:=(by have:=dF h1;rw[Xar]at this;omega);rw[e,Xbo,Za9]at hE;rw[<-hE];have ab:decide ((k:Int)<(l.length:Int))=false:=(by rw[Xar]at h1;exact h1);refine axT ?_;exact⟨rfl,pre,eK⟩
 |true=>
  have C:k<l.length:=(by have:=dT h1;rw[Xar]at this;omega);have ab:decide ((k:Int)<(l.length:Int))=true:=(by rw[Xar]at h1;exact h1);have skip:= @ZrK wo at_ m k l C out todo;have take:= @Zr3 wo at_ m k l C out todo;have hx:=aa _ (XaI C);have gx:(el l)[(k:Int).toNat]? =some ((l[k].1:Int),(l[k].2:Int)):=(by rw[Xab,XaD,Xac C];rfl);generalize l[k]=x at gx hx skip take;(let⟨a,b⟩:=x);simp only at gx hx;have w1:=cI (ZbA (k:=k) oM);refine axT ?_;have next: ∀ {tm:TM} {hp:List SM} (o':List Int) (p' t':List Nat),o'.length=n->cnt o'+t'.length<=1000->Za9 wo at_ m (k+1) (l.drop (k+1)) o' t'=E->Ent 0 tm hp (zE n wo l m i at_ p'.length t'.length (k+1)) (hD o' p' t')->ZsZ 0 (λa=>zE n wo l m i at_ a.2.2.1.length a.2.2.2.length a.1) (λa=>hD a.2.1 a.2.2.1 a.2.2.2) (λa=>a.1<=l.length/\a.2.1.length=n/\cnt a.2.1+a.2.2.2.length<=1000/\Za9 wo at_ m a.1 (l.drop a.1) a.2.1 a.2.2.2=E) (λa=>l.length-a.1) (k,out,pre,todo) (λe tm hp=>e= .exit 4/\ ∃j,Ent 0 tm hp (zD n wo l m i j.length E.2.length) (hD E.1 j E.2)) .normal tm hp:=
   λo' p' t' g1 g2 g3 g4=>⟨(k+1,o',p',t'),⟨C,g1,g2,g3⟩,by show l.length-(k+1)<l.length-k;omega,g4⟩
  cases h2:decide ((k:Int)=wo)with
  |true=>rw[h2]at skip;refine axT ?_;exact next out pre todo ho R (by rw[<-skip rfl];exact hE) (Zbv [0,1] ⟨rfl,rfl,rfl,rfl,trivial⟩ dC ⟨rfl,ZaO,rfl,ZaO,rfl,ZaO,w1,ZaO,rfl,ZaF (by show 1<2;omega),rfl,ZaO,rfl,ZaO,rfl,ZaF (by show 0<2;omega),rfl,ZaO,rfl,ZaO,rfl,ZaO,trivial⟩)
  |false=>
   have ad:i64.wrap (i64.wrap ((a:Int)+(b:Int))-(at_:Int))=((a+b:Nat):Int)-(at_:Int):=(by rw[Zap (x:=(a:Int)+(b:Int)) oM oM,Zap oM oM];omega);cases I:ZiN (a,b) at_ with
   |false=>have ha:(!decide ((a:Int)=(at_:Int)))=true:=(by simp only[ZiN,XbF,decide_eq_false_iff_not]at I;simp only[XbM,decide_eq_false_iff_not];omega);have hb:(!decide ((b:Int)=(at_:Int)))=true:=(by simp only[ZiN,XbF,decide_eq_false_iff_not]at I;simp only[XbM,decide_eq_false_iff_not];omega);refine ZAW ar0 ar1 ?_;exact next out pre todo ho R (by rw[<-skip (by rw[I,Bool.and_false,Bool.false_and])];exact hE) (Zbv [0,1] ⟨rfl,rfl,rfl,rfl,trivial⟩ dC ⟨rfl,ZaO,rfl,ZaO,rfl,ZaO,w1,ZaO,rfl,ZaF (by show 1<2;omega),rfl,ZaO,rfl,ZaO,rfl,ZaF (by show 0<2;omega),rfl,ZaO,rfl,ZaO,rfl,ZaO,trivial⟩)
   |true=>
    have ah:a=at_\/b=at_:=(by simpa[ZiN]using I);(let⟨y,hy⟩: ∃y,oth (a,b) at_=y:=⟨_,rfl⟩);rw[hy]at skip take;have ai:y<n:=(by rw[<-hy];simp only[oth];omega);have U:i64.wrap (i64.wrap ((a:Int)+(b:Int))-(at_:Int))=(y:Int):=(by rw[ad,<-hy];simp only[oth];omega);have hi:(0:Int)<=i64.wrap (i64.wrap ((a:Int)+(b:Int))-(at_:Int))/\i64.wrap (i64.wrap ((a:Int)+(b:Int))-(at_:Int))<((n:Nat):Int):=(by rw[U];omega);have hj:0+(i64.wrap (i64.wrap ((a:Int)+(b:Int))-(at_:Int))).toNat=y:=(by rw[U,Xab,Xag]);have gy:out[0+(i64.wrap (i64.wrap ((a:Int)+(b:Int))-(at_:Int))).toNat]? =some (out.getD y 0):=(by rw[hj,XaB,Xac oM];rfl);cases J:Za2 out y with
    |false=>
     have ae:=J;have fin: ∀ {tm:TM} {hp:List SM},Ent 0 tm hp (zE n wo l m i at_ pre.length todo.length (k+1)) (hD out pre todo)->_:=λ{tm hp}=>next out pre todo ho R (by rw[<-skip (by rw[J,Bool.and_false])];exact hE)
     cases ha:(!decide ((a:Int)=(at_:Int)))with|false=>refine ZAW ar0 ar1 ?_;exact fin (Zbv [0,1] ⟨rfl,rfl,rfl,rfl,trivial⟩ dC ⟨rfl,ZaO,rfl,ZaO,rfl,ZaO,w1,ZaO,rfl,ZaF (by show 1<2;omega),rfl,ZaO,rfl,ZaO,rfl,ZaF (by show 0<2;omega),rfl,ZaO,rfl,ZaO,rfl,ZaO,trivial⟩)|true=>have hb:(!decide ((b:Int)=(at_:Int)))=false:=(by simp only[XbM,decide_eq_false_iff_not]at ha;simp only[Bool.not_eq_false',decide_eq_true_eq];omega);refine ZAW ar0 ar1 ?_;exact fin (Zbv [0,1] ⟨rfl,rfl,rfl,rfl,trivial⟩ dC ⟨rfl,ZaO,rfl,ZaO,rfl,ZaO,w1,ZaO,rfl,ZaF (by show 1<2;omega),rfl,ZaO,rfl,ZaO,rfl,ZaF (by show 0<2;omega),rfl,ZaO,rfl,ZaO,rfl,ZaO,trivial⟩)
    |true=>
     have ae:=J;have aj:=Zos m J;have af:(!decide ((k:Int)=wo)&&ZiN (a,b) at_&&Za2 out y)=true:=(by rw[h2,I,J];rfl);have hz:(todo.length+1)*8<=140737488355328:=oM;have fin: ∀ {tm:TM} {hp:List SM},Ent 0 tm hp (zE n wo l m i at_ ([]:List Nat).length (todo++ [y]).length (k+1)) (hD (out.set y m) [] (todo++ [y]))->_:=λ{tm hp}=>next (out.set y m) [] (todo++ [y]) (by rw[Xap];exact ho) (by rw[Xal,Xao,Xbq];omega) (by rw[<-take af];exact hE)
     have e0:=congrArg (λz=>some (SM.row IC (out.set z (m:Int)) true)) hj;have e4:some (SM.row IC (nl todo++ [i64.wrap (i64.wrap ((a:Int)+(b:Int))-(at_:Int))]) true)=some (SM.row IC (nl []++nl (todo++ [y])) true):=(by rw[U];simp[nl]);have er:some (SV.ref 4 0 (todo.length+1) none)=some (SV.ref 4 0 (todo++ [y]).length none):=(by rw[Xal];rfl);cases ha:(!decide ((a:Int)=(at_:Int)))with|false=>refine ZAW ar0 ar1 ?_;refine Zag rfl (Zx0 rfl rfl rfl rfl rfl rfl rfl rfl rfl rfl rfl (Xar _).symm (Xar _).symm hz ?_);refine axT ?_;exact fin (Zbv [0,4] ⟨e0,rfl,e4,rfl,trivial⟩ dC ⟨rfl,ZaO,rfl,ZaO,rfl,ZaO,w1,ZaO,er,ZaF (by show 1<2;omega),rfl,ZaO,rfl,ZaO,rfl,ZaF (by show 0<2;omega),rfl,ZaO,rfl,ZaO,rfl,ZaO,trivial⟩)|true=>have hb:(!decide ((b:Int)=(at_:Int)))=false:=(by simp only[XbM,decide_eq_false_iff_not]at ha;simp only[Bool.not_eq_false',decide_eq_true_eq];omega);refine ZAW ar0 ar1 ?_;refine Zag rfl (Zx0 rfl rfl rfl rfl rfl rfl rfl rfl rfl rfl rfl (Xar _).symm (Xar _).symm hz ?_);refine axT ?_;exact fin (Zbv [0,4] ⟨e0,rfl,e4,rfl,trivial⟩ dC ⟨rfl,ZaO,rfl,ZaO,rfl,ZaO,w1,ZaO,er,ZaF (by show 1<2;omega),rfl,ZaO,rfl,ZaO,rfl,ZaF (by show 0<2;omega),rfl,ZaO,rfl,ZaO,rfl,ZaO,trivial⟩)
def ZEW (n:Nat) (hn:n<=24) (wo:Int) (l:List (Nat×Nat)) (aa:okL n l) (hl:l.length<=64) (m i:Nat) (out:List Int) (pre todo:List Nat) (f0:Nat) (ho:out.length=n) (J:cnt out+todo.length<=f0) (C:f0<=1000) (I: ∀v∈todo,v<n):
 LoopOK Tryz.prog (Zbg bb) 0 ⟨80,0,88⟩ (ZaN Tryz.f80 9) (zD n wo l m i pre.length todo.length) (hD out pre todo)
 (λe tm hp=>e= .exit 2/\Ent 0 tm hp (zO n wo l m i) [.row IC (ZfE wo l m f0 out todo) true]):=by refine Zaq Zaa rfl (λa=>zD n wo l m i a.2.1.length a.2.2.length) (λa=>hD a.1 a.2.1 a.2.2) (λa=>a.1.length=n/\(∀v∈a.2.2,v<n)/\ ∃f,f<=1000/\cnt a.1+a.2.2.length<=f/\ZfE wo l m f a.1 a.2.2=ZfE wo l m f0 out todo) (λa=>cnt a.1+a.2.2.length) ?_ (out,pre,todo) ⟨ho,I,f0,C,J,rfl⟩ Zaj;generalize ZfE wo l m f0 out todo=D;clear ho I J C;clear out pre todo f0;rintro⟨out,pre,todo⟩ ⟨ho,I,f,C,hf,j⟩;simp only at ho I hf j;cases todo with|nil=>have hd:ZfE wo l m f out []=out:=(by cases f<;>rfl);rw[hd]at j;refine axT ?_;refine⟨rfl, ?_⟩;rw[<-j];exact Zbv [0] ⟨rfl,rfl,trivial⟩ dC ⟨rfl,ZaO,rfl,ZaO,rfl,ZaF (by show 0<1;omega),rfl,ZaO,rfl,ZaO,rfl,ZaO,trivial⟩|cons v rest=>have ab:=I v Xah;have hc:(0:Int)<=0/\(0:Int)<(((v::rest).length:Nat):Int):=(by rw[Xao];omega);have hb:=decide_eq_true hc.2;have gv:(nl pre++nl (v::rest))[pre.length+(0:Int).toNat]? =some (v:Int):=(by rw[Xaw (by rw[Xar];exact Nat.le_add_right _ _),Xar];simp[nl]);have af:(0:Int)<=1/\(1:Int)<=(((v::rest).length:Nat):Int):=(by rw[Xao];omega);have ad:(v::rest).length-(1:Int).toNat=rest.length:=(by rw[Xao];show rest.length+1-1=_;omega);have ae:pre.length+(1:Int).toNat=(pre++ [v]).length:=(by rw[Xal];rfl);have R:nl pre++nl (v::rest)=nl (pre++ [v])++nl rest:=(by simp[nl]);obtain⟨f,rfl⟩: ∃k,f=k+1:=⟨f-1,by rw[Xao]at hf;omega⟩;have g1:=ZeN wo v m l 0 out rest;have g2:=ZgL wo v m l 0 out rest;have g3:=Zhh wo v m n l 0 out rest ho λw hw=>I w (Xai _ hw);rw[Xao]at hf;refine axT ?_;refine((ZF1 n hn wo l aa hl m i v ab out (pre++ [v]) rest ho oM).ent ?_).through ?_;exact Zbv [0,1] ⟨rfl,rfl,congrArg (λz=>some (SM.row IC z true)) R,rfl,trivial⟩ dC ⟨rfl,ZaO,rfl,ZaO,congrArg (λz:Nat=>some (nt z)) (Xar _),ZaO,rfl,ZaO,(congrArg (λx=>some (SV.ref 1 x _ none)) ae).trans (congrArg (λz=>some (SV.ref 1 _ z none)) ad),ZaF (by show 1<2;omega),rfl,ZaO,rfl,ZaO,rfl,ZaF (by show 0<2;omega),rfl,ZaO,rfl,ZaO,rfl,ZaO,trivial⟩;rintro _ tm hp ⟨rfl,U,hE⟩;refine⟨_,_,hE, ?_⟩;exact⟨((Za9 wo v m 0 l out rest).1,U,(Za9 wo v m 0 l out rest).2),⟨by rw[g1];exact ho,g3,f,oM,by rw[g2];omega,j⟩,by show cnt (Za9 wo v m 0 l out rest).1+(Za9 wo v m 0 l out rest).2.length<cnt out+(v::rest).length;rw[g2,Xao];omega,Zaj⟩
def ZE8 (n:Nat) (hn:n<=24) (wo:Int) (l:List (Nat×Nat)) (R:okL n l) (hl:l.length<=64):
 LoopOK Tryz.prog (Zbg bb) 0 ⟨80,0,88⟩ (ZaN Tryz.f80 4) (zO n wo l 0 0) [.row IC (List.replicate n (-1:Int)) true]
 (λe tm hp=>e= .exit 0/\Ent 0 tm hp [(7, .ref 0 0 n none)] [.row IC (ZeU wo l n) true]):=by refine Zaq Zaa rfl (λ(a:Nat×Nat×List Int)=>zO n wo l a.2.1 a.1) (λa=> [.row IC a.2.2 true]) (λa=>a.1<=n/\a.2.1<=a.1/\a.2.2.length=n/\Zca wo l (n-a.1) a.1 a.2.1 a.2.2=ZeU wo l n) (λa=>n-a.1) ?_ (0,0,List.replicate n (-1)) ⟨Xak _,Xae _,XaE,rfl⟩ Zaj;generalize ZeU wo l n=F;rintro⟨i,m,out⟩ ⟨hi,hm,ho,C⟩;simp only at hi hm ho C;cases U:decide ((i:Int)<(n:Int))with|false=>have e:n-i=0:=fO U;rw[e,Zca]at C;refine axT ?_;refine⟨rfl, ?_⟩;rw[<-C];exact eK|true=>have I:i<n:=tO U;obtain⟨k,hk⟩: ∃k,n-i=k+1:=⟨n-i-1,oM⟩;have J:n-(i+1)=k:=oM;rw[hk,Zca]at C;have gy:out[0+(i:Int).toNat]? =some (out.getD i 0):=(by rw[Xab,Xag,XaB,Xac oM];rfl);have w1:=cI (ZbA (k:=i) oM);have w2:=cI (ZbA (k:=m) oM);refine axT ?_;cases j:Za2 out i with|false=>rw[j,if_neg sM]at C;have hg:decide ((0:Int)<=out.getD i 0)=true:=(by have:decide (out.getD i 0<0)=false:=j;have:=dF this;exact decide_eq_true oM);refine axT ?_;refine⟨(i+1,m,out),⟨I,by show m<=i+1;omega,ho,by show Zca wo l (n-(i+1)) (i+1) m out=F;rw[J];exact C⟩,by show n-(i+1)<n-i;omega, ?_⟩;exact eK|true=>rw[j,if_pos rfl]at C;have hg:decide ((0:Int)<=out.getD i 0)=false:=(by have:=dT (show decide (out.getD i 0<0)=true from j);exact decide_eq_false oM);have aa:=Zos m j;have ab:cnt out<=n:=(by rw[<-ho];exact List.length_filter_le _ _);refine axT ?_;refine((ZEW (bb:=bb) n hn wo l R hl m i (out.set i m) [] [i] (cnt (out.set i m)+1) (by rw[Xap];exact ho) (Xae _) oM (λv hv=>by rw[Xav.1 hv];exact I)).ent ?_).through ?_;exact Zbv [0,1] ⟨congrArg (λz=>some (SM.row IC (out.set z (m:Int)) true)) (by rw[Xab,Xag]),rfl,rfl,rfl,trivial⟩ dC ⟨rfl,ZaF (by show 1<2;omega),rfl,ZaO,rfl,ZaO,rfl,ZaF (by show 0<2;omega),rfl,ZaO,rfl,ZaO,rfl,ZaO,trivial⟩;rintro _ tm hp ⟨rfl,hE⟩;refine⟨_,_,hE, ?_⟩;show wp _ _ _ _ _ _ _ _ _;refine axT ?_;refine⟨(i+1,m+1,ZfE wo l m (cnt (out.set i m)+1) (out.set i m) [i]),⟨I,by show m+1<=i+1;omega,by rw[Zim,Xap];exact ho,by show Zca wo l (n-(i+1)) (i+1) (m+1) _=F;rw[J];exact C⟩,by show n-(i+1)<n-i;omega, ?_⟩;exact eK
def ZC7 (n:Nat) (hn:n<=24) (wo:Int) (l:List (Nat×Nat)) (j:okL n l) (hl:l.length<=64):PureOK Tryz.prog (Zbg bb) 80 [nt n, .v (.l E2) (el l), .v IC wo] (λV=>V= .v (.l IC) (ZeU wo l n)):=by refine Zae Zaa Tryz.func80 ?_;have hR:=Zt9 (bb:=bb) false (-1:Int) n oM;refine auG ?_;refine auH ?_;refine Zag rfl (Zzq rfl rfl rfl rfl rfl rfl (Xae 1) (hR.mono ?_));rintro _ _ _ ⟨rfl,rfl,rfl⟩;refine Zaf rfl rfl ?_;refine auN ?_;refine auG ?_;refine auG ?_;refine((ZE8 n hn wo l j hl).ent ?_).through ?_;exact Zbv [1] ⟨rfl,rfl,trivial⟩ dC ⟨rfl,ZaO,rfl,ZaO,rfl,ZaF (by show 0<1;omega),rfl,ZaO,rfl,ZaO,rfl,ZaO,trivial⟩;rintro _ tm hp ⟨rfl,hE⟩;refine⟨_,_,hE, ?_⟩;show wp _ _ _ _ _ _ _ _ _;refine auG ?_;exact⟨by rw[ZeF];omega,by rw[ZaY (ZeF wo l n)]⟩
def ZCA (n:Nat) (hn:n<=24) (l:List (Nat×Nat)) (C:okL n l) (hl:l.length<=64):PureOK Tryz.prog (Zbg bb) 79 [nt n, .v (.l E2) (el l)] (λV=>V=nt 0):=by refine Zae Zaa Tryz.func79 ?_;have U:decide ((24:Int)<(n:Int))=false:=decide_eq_false oM;have c3:decide ((64:Int)<((el l).length:Int))=false:=decide_eq_false (by rw[Xar];omega);refine axT ?_;refine Zaq Zaa rfl (λk=> [(0,nt n),(18, .v (.l E2) (el l)),(19,nt l.length),(20,nt k)]) (λ_=> []) (λk=>k<=l.length) (λk=>l.length-k) ?_ 0 (Xak _) (ZbO ⟨rfl,rfl,rfl,rfl,congrArg (λz:Nat=>some (nt z)) (Xar _),rfl,rfl,rfl,trivial⟩);intro k hk;cases I:decide ((k:Int)<(l.length:Int))with|false=>refine auG ?_;refine brF I ?_;show wp _ _ _ _ _ _ _ _ _;refine auG ?_;rfl|true=>have j:k<l.length:=tO I;have J:=C _ (XaI j);have R:(el l)[(k:Int).toNat]? =some ((l[k].1:Int),(l[k].2:Int)):=(by rw[Xab,XaD,Xac j];rfl);generalize l[k]=x at R J;(let⟨a,b⟩:=x);simp only at R J;have d2:decide ((n:Int)<=(a:Int))=false:=decide_eq_false oM;have d3:decide ((b:Int)<0)=false:=decide_eq_false oM;have d4:decide ((n:Int)<=(b:Int))=false:=decide_eq_false oM;refine ZAW ar0 ar1 ?_;exact⟨k+1,j,by show l.length-(k+1)<l.length-k;omega,ZbO ⟨rfl,rfl,rfl,rfl,rfl,rfl,cI (ZbA oM),rfl,trivial⟩⟩
def ZjQ (n:Nat) (hn:n<=24) (l:List (Nat×Nat)) (j:okL n l) (hl:l.length<=64):PureOK Tryz.prog (Zbg bb) 53 [nt n, .v (.l E2) (el l)] (λV=>V= .tup [.v (.l IC) (ZeU (-1) l n),nt 0]):=by refine Zae Zaa Tryz.func53 ?_;have C:=ZCA (bb:=bb) n hn l j hl;have I:=ZC7 (bb:=bb) n hn (-1) l j hl;refine auG ?_;refine auG ?_;refine auG ?_;refine brF rfl ?_;refine auG ?_;rfl
end Go.Proofs.YtpdhpbldangmbaaGreatDoor
namespace Ne
abbrev Txt:=List UInt8
abbrev Item:=Txt×(List Txt×(Bool×Bool))
abbrev Sw:=Txt×(Txt×(Txt×(Bool×Bool)))
abbrev Br:=Txt×(Txt×(Txt×(Int×(Int×(Int×(Int×(Int×Int)))))))
abbrev Ge:=Txt×(Txt×(Int×(Int×Int)))
abbrev Lo:=Txt×(Txt×Int)
abbrev Sto:=Txt×(Txt×(Int×(Int×Int)))
structure Net where
 nodes:List Txt
 sws:List Sw
 brs:List Br
 gens:List Ge
 loads:List Lo
 stores:List Sto
def Zpz (c:UInt8):Bool:=decide (65<=c.toNat)&&decide (c.toNat<=90)
def Zr0 (c:UInt8):Bool:=decide (48<=c.toNat)&&decide (c.toNat<=57)
def Zb0:Txt->Bool
 | []=>false
 |c::r=>Nat.ble (r.length+1) 8&&(Zpz c&&r.all λc=>Zpz c||Zr0 c)
def inR (n lo hi:Int):Bool:=decide (lo<=n)&&decide (n<=hi)
def Zri (b:Br):Bool:= !(inR b.2.2.2.1 1 10000&&inR b.2.2.2.2.1 500 1500&&inR b.2.2.2.2.2.1 (-1000) 1000&&inR b.2.2.2.2.2.2.1 0 100000&&inR b.2.2.2.2.2.2.2.1 b.2.2.2.2.2.2.1 100000&&inR b.2.2.2.2.2.2.2.2 0 200000)
def swI (s:Sw):Item:=(s.1,[s.2.1,s.2.2.1],true,false)
def brI (b:Br):Item:=(b.1,[b.2.1,b.2.2.1],true,Zri b)
def geI (g:Ge):Item:=(g.1,[g.2.1],false, !(inR g.2.2.1 0 100000)|| !(inR g.2.2.2.1 g.2.2.1 100000)|| !(inR g.2.2.2.2 0 100000))
def loI (d:Lo):Item:=(d.1,[d.2.1],false, !(inR d.2.2 0 100000))
def stI (s:Sto):Item:=(s.1,[s.2.1],false, !(inR s.2.2.1 0 100000)|| !(inR s.2.2.2.1 0 100000)|| !(inR s.2.2.2.2 0 100000))
def noI (s:Txt):Item:=(s,[],false,false)
def ZzB (n:Net):List Item:=n.sws.map swI++(n.brs.map brI++(n.gens.map geI++(n.loads.map loI++n.stores.map stI)))
def ZdR (s:Txt):List Txt->Bool
 | []=>false
 |k::r=>bif s==k then true else ZdR s r
def Zdw (nodes met:List Txt) (it:Item):Int:=
 bif !Zb0 it.1 then 5 else bif ZdR it.1 met then 7 else bif it.2.1.all λs=>ZdR s nodes then
  (bif it.2.2.1&&(it.2.1.getD 0 []==it.2.1.getD 1 [])then 3 else bif it.2.2.2 then 4 else 0)else 6
def Za6 (nodes:List Txt):List Txt->List Item->Int
 |_,[]=>0
 |met,it::r=>match decide (Zdw nodes met it=0)with
  |true=>Za6 nodes (met++ [it.1]) r
  |false=>Zdw nodes met it
def big (n:Net):Bool:=decide (24<n.nodes.length)||(decide (32<n.sws.length)||(decide (24<n.brs.length)||(decide (10<n.gens.length)||(decide (12<n.loads.length)||decide (4<n.stores.length)))))
def ZjU (n:Net):Int:=bif big n then 2 else Za6 n.nodes [] (n.nodes.map noI++ZzB n)
def ZdK (e f:Int):Int:=match decide (e=0)with
 |true=>f
 |false=>e
def ZcI (s:Txt):List Txt->Nat->Int
 | [],_=> -1
 |k::r,i=>bif s==k then(i:Int)else ZcI s r (i+1)
def Zql (s:Txt): ∀ (l:List Txt) (i:Nat),ZdR s l=decide (0<=ZcI s l i)
 | [],_=>rfl
 |k::r,i=>by rw[ZdR,ZcI];cases s==k with|true=>simp|false=>simp[cond_false];exact Zql s r (i+1)
def Zq8 (nodes:List Txt): ∀ (l r:List Item) (met:List Txt),Za6 nodes met (l++r)=ZdK (Za6 nodes met l) (Za6 nodes (met++l.map (·.1)) r)
 | [],r,met=>by simp[Za6,ZdK]
 |it::l,r,met=>by rw[Xa5,Za6,Za6];cases h:decide (Zdw nodes met it=0)with|true=>simp only[];rw[Zq8 nodes l r,Xbm,Xa7];rfl|false=>simp only[];rw[ZdK,h]
end Ne
namespace Go.Proofs.YtpdhpbldangmbaaGreatDoor
open Ne
theorem ZoV (s:Txt): ∀l:List Txt,ZdR s l=decide (s∈l)
 | []=>by simp[ZdR]
 |k::r=>by rw[ZdR,ZoV s r];cases h:(s==k)with|true=>rw[eq_of_beq h];simp|false=>grind
def ZFl {nodes met:List Txt} {it:Ne.Item} (h:Zdw nodes met it=0):Zb0 it.1=true/\ZdR it.1 met=false/\(∀s∈it.2.1,s∈nodes)/\it.2.2.2=false:=by unfold Zdw at h;cases j:Zb0 it.1 with|false=>rw[j]at h;simp at h|true=>rw[j]at h;cases C:ZdR it.1 met with|true=>rw[C]at h;simp at h|false=>rw[C]at h;cases I:(it.2.1.all λs=>ZdR s nodes)with|false=>rw[I]at h;simp at h|true=>rw[I]at h;cases J:(it.2.2.1&&(it.2.1.getD 0 []==it.2.1.getD 1 []))with|true=>rw[J]at h;simp at h|false=>rw[J]at h;cases R:it.2.2.2 with|true=>rw[R]at h;simp at h|false=>grind [XaH,ZoV]
def Zm8 {nodes:List Txt}: ∀ {l:List Ne.Item} {met:List Txt},Za6 nodes met l=0->met.Nodup->(∀it∈l,Zb0 it.1=true/\(∀s∈it.2.1,s∈nodes)/\it.2.2.2=false)/\(met++l.map (·.1)).Nodup
 | [],met,_,hn=>⟨λ_ h=>absurd h Xaq,by simpa using hn⟩
 |it::l,met,h,hn=>by rw[Za6]at h;cases j:decide (Zdw nodes met it=0)with|false=>rw[j]at h;exact absurd h (dF j)|true=>rw[j]at h;have hd:=ZFl (dT j);have hm:(met++ [it.1]).Nodup:=(by grind [List.nodup_append,Xav,ZoV]);(let⟨g1,g2⟩:=Zm8 h hm);refine⟨λx C=> ?_, ?_⟩;grind;grind
structure Fine (n:Ne.Net):Prop where
 big:Ne.big n=false
 node: ∀s∈n.nodes,Zb0 s=true
 dev: ∀it∈ZzB n,Zb0 it.1=true/\(∀s∈it.2.1,s∈n.nodes)/\it.2.2.2=false
 nd:(n.nodes++(ZzB n).map (·.1)).Nodup
def ZH5 {n:Ne.Net} (h:ZjU n=0):big n=false:=by cases j:big n with|false=>rfl|true=>unfold ZjU at h;rw[j,cond_true]at h;cases h
def ZsX {n:Ne.Net} (h:ZjU n=0):Fine n:=by
 have j:=ZH5 h;unfold ZjU at h;rw[j,cond_false]at h;let⟨g1,g2⟩:=Zm8 h List.nodup_nil
 refine⟨j,λs C=>(g1 (noI s) (Xbu _ (List.mem_map_of_mem C))).1,λit hi=> ?_, ?_⟩;grind;rw[Xba,Xbb,XbG]at g2;grind [noI,List.map_id]
def Ztp {x lo hi:Int} (h:inR x lo hi=true):lo<=x/\x<=hi:=by grind [inR]
def ZqB {n:Ne.Net} (hf:Fine n) {x:Sw} (j:x∈n.sws):x.2.1∈n.nodes/\x.2.2.1∈n.nodes:=by have h:=hf.dev (swI x) (Xbu _ (List.mem_map_of_mem j));grind [swI]
def ZhV {n:Ne.Net} (hf:Fine n) {x:Br} (j:x∈n.brs):x.2.1∈n.nodes/\x.2.2.1∈n.nodes/\Zri x=false:=by have h:=hf.dev (brI x) (XbH _ (Xbu _ (List.mem_map_of_mem j)));grind [brI]
def ZuV {t:Txt}: ∀ {nodes:List Txt} (i:Nat),t∈nodes-> ∃j,ZcI t nodes i=((i+j:Nat):Int)/\j<nodes.length
 | [],i,h=>absurd h Xaq
 |k::r,i,h=>by rw[ZcI];cases R:(t==k)with|true=>exact⟨0,rfl,Nat.succ_pos _⟩|false=>have C:t∈r:=(by grind);(let⟨j,I,J⟩:=ZuV (i+1) C);exact⟨j+1,by rw[cond_false,I];congr 1;omega,Nat.succ_lt_succ J⟩
theorem ZaC {n:Ne.Net} (hf:Fine n):n.nodes.length<=24/\n.sws.length<=32/\n.brs.length<=24/\n.gens.length<=10/\n.loads.length<=12/\n.stores.length<=4:=by have j:=hf.big;grind [big,XbF]
def plN (n:Ne.Net) (s:Txt):Nat:=(ZcI s n.nodes 0).toNat
def swE (n:Ne.Net) (s:Sw):Nat×Nat:=(plN n s.2.1,plN n s.2.2.1)
def ZtO (s:Sw):Bool:=s.2.2.2.2==false
def Zew (n:Ne.Net):List (Nat×Nat):=(n.sws.filter ZtO).map (swE n)
def Zb6 (n:Ne.Net):List Int:=ZeU (-1) (Zew n) n.nodes.length
def Zc8 (l:List Int):Int:=l.foldl (λm b=>if b+1>m then b+1 else m) 0
def Zab (n:Ne.Net):Nat:=(Zc8 (Zb6 n)).toNat
def bAt (n:Ne.Net) (s:Txt):Nat:=((Zb6 n).getD (plN n s) 0).toNat
def brE (n:Ne.Net) (b:Br):Nat×Nat:=(bAt n b.2.1,bAt n b.2.2.1)
def ZbD (n:Ne.Net):List Int:=ZeU (-1) (n.brs.map (brE n)) (Zab n)
def Zce {n:Ne.Net} {s:Txt} (h:s∈n.nodes):ZcI s n.nodes 0=((plN n s:Nat):Int)/\plN n s<n.nodes.length:=by
 let⟨j,C,I⟩:=ZuV 0 h
 simp_all [Xag,plN,Xab]
def ZmG (l:List Int) (b:Int):Zc8 (l++ [b])=if b+1>Zc8 l then b+1 else Zc8 l:=by rw[Zc8,List.foldl_append];rfl
def Ztc (k:Int): ∀ (l:List Int) (m:Int),m<=k->(∀x∈l,x<k)->(∀x∈l,x<l.foldl (λm b=>if b+1>m then b+1 else m) m)/\m<=l.foldl (λm b=>if b+1>m then b+1 else m) m/\l.foldl (λm b=>if b+1>m then b+1 else m) m<=k
 | [],m,hm,_=>⟨λx h=>absurd h Xaq,Xby _,hm⟩
 |a::l,m,hm,h=>by have C:=h a Xah;(let⟨g1,g2,g3⟩:=Ztc k l (if a+1>m then a+1 else m) (by split<;>omega) (λx j=>h x (Xai _ j)));grind
def Zob {l:List Int} {k:Nat} (h: ∀x∈l,x<(k:Int)):(∀x∈l,x<Zc8 l)/\0<=Zc8 l/\Zc8 l<=(k:Int):=Ztc k l 0 (XaG k) h
def Zjl {n:Ne.Net} (hf:Fine n):okL n.nodes.length (Zew n)/\(Zew n).length<=64:=by refine⟨λx j=> ?_, ?_⟩;obtain⟨s,C,rfl⟩:=XaT.1 j;have h:=ZqB hf (List.mem_filter.1 C).1;exact⟨(Zce h.1).2,(Zce h.2).2⟩;have I:=(ZaC hf).2.1;grind [List.length_filter_le,ZtO,Zew,Xar]
def ZgT (n:Ne.Net):(Zb6 n).length=n.nodes.length:=ZeF _ _ _
def Zkc (n:Ne.Net): ∀x∈Zb6 n,0<=x/\x<(n.nodes.length:Int):=Zm9 _ _ _
def ZbL (n:Ne.Net):Zc8 (Zb6 n)=(Zab n:Int)/\Zab n<=n.nodes.length:=by have h:=Zob λx j=>(Zkc n x j).2;grind [Zc8,Zb6,Zab]
def ZiS {n:Ne.Net} {i:Nat} (hi:i<n.nodes.length): ∃b:Nat,(Zb6 n)[i]? =some (b:Int)/\b<Zab n:=by have hl:=ZgT n;have j:i<(Zb6 n).length:=oM;have I:=Zkc n _ (XaI j);have J:=(Zob λx C=>(Zkc n x C).2).1 _ (XaI j);have R:=(ZbL n).1;refine⟨((Zb6 n)[i]).toNat, ?_,oM⟩;grind
def Zex {n:Ne.Net} {s:Txt} (h:s∈n.nodes):(Zb6 n)[plN n s]? =some ((bAt n s:Nat):Int)/\bAt n s<Zab n:=by
 let⟨b,j,C⟩:=ZiS (Zce h).2
 have e:bAt n s=b:=by rw[bAt,XaB,j];exact Xab b
 rw[e];exact⟨j,C⟩
def ZAu {n:Ne.Net} (hf:Fine n):okL (Zab n) (n.brs.map (brE n))/\(n.brs.map (brE n)).length<=64:=by refine⟨λx j=> ?_, ?_⟩;obtain⟨b,C,rfl⟩:=XaT.1 j;have h:=ZhV hf C;exact⟨(Zex h.1).2,(Zex h.2.1).2⟩;have I:=(ZaC hf).2.2.1;grind
def ZcK (n:Ne.Net):(ZbD n).length=Zab n:=ZeF _ _ _
def Zqy (n:Ne.Net): ∀x∈ZbD n,0<=x/\x<(Zab n:Int):=Zm9 _ _ _
variable {bb:Bool}
open Go.Am Go.Tx
def Zg9 (l:List Txt) (s:Txt) (hl:l.length<=1000):PureOK Tryz.prog (Zbg bb) 35 [.v (.l .s) l, .v .s s] (λV=>V= .v (.i .i64) (ZcI s l 0)):=by refine Zae Zaa Tryz.func35 ?_;refine axT ?_;refine Zaq Zaa rfl (λi=> [(0, .v (.l .s) l),(1, .v .s s),(7,nt l.length),(8,nt i)]) (λ_=> []) (λi=>i<=l.length/\ZcI s l 0=ZcI s (l.drop i) i) (λi=>l.length-i) ?_ 0 ⟨Xak _,rfl⟩ (eK);rintro i ⟨hi,he⟩;cases I:decide ((i:Int)<(l.length:Int))with|false=>have e:i=l.length:=fO I;refine axT ?_;exact congrArg (λx=>SV.v (.i .i64) x) (by rw[he,e,Xbo];rfl)|true=>have j:i<l.length:=tO I;have R:l[(i:Int).toNat]? =some l[i]:=(by rw[Xab];exact Xac j);have C:ZcI s (l.drop i) i=bif s==l[i]then(i:Int)else ZcI s (l.drop (i+1)) (i+1):=(by rw[XaM j,ZcI]);generalize ex:l[i]=x;rw[ex]at R C;refine axT ?_;cases J:(s==x)with|true=>rw[J]at C;refine axT ?_;(repeat (first|refine ZaK ?_|refine ZaJ ?_|refine Zay ?_));exact congrArg (λx=>SV.v (.i .i64) x) (he.trans C).symm|false=>rw[J]at C;refine axT ?_;refine⟨i+1,⟨j,he.trans C⟩,by show l.length-(i+1)<l.length-i;omega, ?_⟩;exact eK
def ZBS (a b:Txt):(a==b)=(b==a):=by rw[XbQ,beq_iff_eq,beq_iff_eq];exact⟨Eq.symm,Eq.symm⟩
def ZfB (l:List Txt) (s:Txt) (hl:l.length<=1000):PureOK Tryz.prog (Zbg bb) 30 [.v (.l .s) l, .v .s s] (λV=>V= .v (.i .i64) (ZcI s l 0)):=by refine Zae Zaa Tryz.func30 ?_;refine axT ?_;refine Zaq Zaa rfl (λi=> [(1, .v .s s),(7, .v (.l .s) l),(8,nt l.length),(9,nt i)]) (λ_=> []) (λi=>i<=l.length/\ZcI s l 0=ZcI s (l.drop i) i) (λi=>l.length-i) ?_ 0 ⟨Xak _,rfl⟩ (eK);rintro i ⟨hi,he⟩;cases I:decide ((i:Int)<(l.length:Int))with|false=>have e:i=l.length:=fO I;refine axT ?_;exact congrArg (λx=>SV.v (.i .i64) x) (by rw[he,e,Xbo];rfl)|true=>have j:i<l.length:=tO I;have R:l[(i:Int).toNat]? =some l[i]:=(by rw[Xab];exact Xac j);have C:ZcI s (l.drop i) i=bif l[i]==s then(i:Int)else ZcI s (l.drop (i+1)) (i+1):=(by rw[XaM j,ZcI,ZBS]);generalize ex:l[i]=x;rw[ex]at R C;refine axT ?_;cases J:(x==s)with|true=>rw[J]at C;refine axT ?_;(repeat (first|refine ZaK ?_|refine ZaJ ?_|refine Zay ?_));exact congrArg (λx=>SV.v (.i .i64) x) (he.trans C).symm|false=>rw[J]at C;refine axT ?_;refine⟨i+1,⟨j,he.trans C⟩,by show l.length-(i+1)<l.length-i;omega, ?_⟩;exact eK
def ZD4 (s:Txt) (l:List Txt):decide ((0:Int)<=ZcI s l 0)=ZdR s l:=(Zql s l 0).symm
def Zwl (l:List Txt) (s:Txt) (hl:l.length<=1000):PureOK Tryz.prog (Zbg bb) 75 [.v (.l .s) l, .v .s s] (λV=>V= .v .b (ZdR s l)):=by refine Zae Zaa Tryz.func75 ?_;have h:=Zg9 (bb:=bb) l s hl;refine auG ?_;refine auG ?_;exact cB (ZD4 s l)
def ZJa (l:List Txt) (s:Txt) (hl:l.length<=1000):PureOK Tryz.prog (Zbg bb) 42 [.v (.l .s) l, .v .s s] (λV=>V= .v .b (ZdR s l)):=by refine Zae Zaa Tryz.func42 ?_;have h:=ZfB (bb:=bb) l s hl;refine auG ?_;refine auG ?_;exact cB (ZD4 s l)
def ZAO (n lo hi:Int):(!inR n lo hi)=(decide (n<lo)||decide (hi<n)):=by unfold inR;rw[XbQ];simp only[XbM,Bool.and_eq_false_iff,decide_eq_false_iff_not,Bool.or_eq_true,decide_eq_true_eq];omega
def ZFX (n lo hi:Int):PureOK Tryz.prog (Zbg bb) 76 [.v (.i .i64) n, .v (.i .i64) lo, .v (.i .i64) hi] (λV=>V= .v .b (!inR n lo hi)):=by refine Zae Zaa Tryz.func76 ?_;rw[ZAO];refine auG ?_;cases j:decide (n<lo)with|true=>refine auG ?_;rfl|false=>refine auG ?_;rfl
def Zo1 (n lo hi:Int):PureOK Tryz.prog (Zbg bb) 17 [.v (.i .i64) n, .v (.i .i64) lo, .v (.i .i64) hi] (λV=>V= .v .b (inR n lo hi)):=by
 refine Zae Zaa Tryz.func17 ?_;have e:inR n lo hi= !(decide (n<lo)||decide (hi<n)):=by rw[<-ZAO,Bool.not_not]
 rw[e];refine auG ?_;cases j:decide (n<lo)with|true=>refine auG ?_;rfl|false=>refine auG ?_;rfl
def Zc7 (n:Int):PureOK Tryz.prog (Zbg bb) 77 [.v (.i .i64) n] (λV=>V= .v .b (inR n 0 100000)):=by refine Zae Zaa Tryz.func77 ?_;have h:=ZFX (bb:=bb) n 0 100000;refine auG ?_;refine auG ?_;exact cB (Bool.not_not _)
def brV (b:Br):SV:= .agg [.v .s b.1, .v .s b.2.1, .v .s b.2.2.1, .v (.i .i64) b.2.2.2.1, .v (.i .i64) b.2.2.2.2.1, .v (.i .i64) b.2.2.2.2.2.1, .v (.i .i64) b.2.2.2.2.2.2.1, .v (.i .i64) b.2.2.2.2.2.2.2.1, .v (.i .i64) b.2.2.2.2.2.2.2.2]
def ZLU (q:Bool) (b:Br):PureOK Tryz.prog (Zbg bb) (bif q then 72 else 50) [brV b] (λV=>V= .v (.i .i64) (bif Zri b then(4:Int)else 0)):=by
 have c: ∀n lo hi,PureOK Tryz.prog (Zbg bb) (bif q then 17 else 76) [.v (.i .i64) n, .v (.i .i64) lo, .v (.i .i64) hi] (λV=>V= .v .b (bif q then inR n lo hi else !inR n lo hi)):=by cases q;exact ZFX (bb:=bb);exact Zo1 (bb:=bb)
 have j:=c b.2.2.2.1 1 10000;have C:=c b.2.2.2.2.1 500 1500;have c3:=c b.2.2.2.2.2.1 (-1000) 1000;have c4:=c b.2.2.2.2.2.2.1 0 100000;have c5:=c b.2.2.2.2.2.2.2.1 b.2.2.2.2.2.2.1 100000;have I:=c b.2.2.2.2.2.2.2.2 0 200000;unfold Zri;generalize inR b.2.2.2.1 1 10000=i1 at*;generalize inR b.2.2.2.2.1 500 1500=i2 at*;generalize inR b.2.2.2.2.2.1 (-1000) 1000=i3 at*;generalize inR b.2.2.2.2.2.2.1 0 100000=i4 at*;generalize inR b.2.2.2.2.2.2.2.1 b.2.2.2.2.2.2.1 100000=i5 at*;generalize inR b.2.2.2.2.2.2.2.2 0 200000=i6 at*;cases q;all_goals first
 |refine Zae Zaa Tryz.func50 ?_
 |refine Zae Zaa Tryz.func72 ?_
 all_goals
  cases i1
  rotate_left
  cases i2
  rotate_left
  cases i3
  rotate_left
  cases i4
  rotate_left
  cases i5
  rotate_left
  cases i6
  all_goals
   refine axT ?_
   rfl
variable {bb:Bool}
def ZxK (i:Nat) (c:UInt8):Bool:=Zpz c||(decide (0<i)&&Zr0 c)
def chR (c:UInt8):Bool:=Zpz c||Zr0 c
def ZE0 (i:Nat) (c:UInt8):ZxK i c=((decide ((c.toNat:Int)≥(65:Int))&&decide ((c.toNat:Int)<=(90:Int)))||(decide ((i:Int)>(0:Int))&&(decide ((c.toNat:Int)≥(48:Int))&&decide ((c.toNat:Int)<=(57:Int))))):=by unfold ZxK Zpz Zr0;grind
def ZlD (c:UInt8):chR c= !((decide ((c.toNat:Int)<(65:Int))||decide ((c.toNat:Int)>(90:Int)))&&(decide ((c.toNat:Int)<(48:Int))||decide ((c.toNat:Int)>(57:Int)))):=by unfold chR Zpz Zr0;grind
def ZCW {s:Txt} (h: ∀j (J:j<s.length),ZxK j s[j]=true):Zb0 s=(decide (1<=s.length)&&decide (s.length<=8)):=by cases s with|nil=>rfl|cons c r=>have C:Zpz c=true:=(by simpa[ZxK]using(h 0 (Nat.succ_pos _)));have I:(r.all λc=>Zpz c||Zr0 c)=true:=(by grind [XaH,List.getElem_of_mem,Nat.succ_lt_succ,ZxK]);rw[Zb0,C,I,Bool.and_true,Bool.and_true,Xao,XbQ];simp
def ZCC {s:Txt} {j:Nat} (C:j<s.length) (h:ZxK j s[j]=false):Zb0 s=false:=by cases s with|nil=>exact absurd C (XaS j)|cons c r=>rw[Zb0];cases j with|zero=>grind [Zpz,ZxK]|succ j=>grind [Zpz,Zr0,List.all_eq_false,Nat.lt_of_succ_lt_succ,XaI,ZxK]
def ZCa {s:Txt} {i:Nat} (h:i<s.length):(Zjw s)[(i:Int).toNat]? =some ((s[i].toNat:Nat):Int):=by rw[Xab,Zjw,XaD,Xac h];rfl
def ZEM (s:Txt) (hs:s.length<=9223372036854775806):PureOK Tryz.prog (Zbg bb) 74 [.v .s s] (λV=>V= .v .b (Zb0 s)):=by
 refine Zae Zaa Tryz.func74 ?_;have U:(Zjw s).length=s.length:=Xar _;refine auG ?_;refine auG ?_;refine Zaq Zaa rfl (λi=> [(0, .v .s s),(6, .v (.l (.i .u8)) (Zjw s)),(7,nt s.length),(8,nt i)]) (λ_=> []) (λi=>i<=s.length/\ ∀j (I:j<s.length),j<i->ZxK j s[j]=true) (λi=>s.length-i) ?_ 0 ⟨Xak _,λj _ h=>absurd h (XaS j)⟩ (Zah ⟨rfl,rfl,cI (congrArg Int.ofNat U),rfl,trivial⟩);rintro i ⟨hi,J⟩;cases h0:decide ((i:Int)<(s.length:Int))with
 |false=>have e:=fO h0;have hn:=ZCW λj I=>J j I oM;cases g1:decide ((s.length:Int)≥(1:Int))<;>refine axT ?_<;>refine cB ?_<;>rw[hn,XbQ]<;>simp only[Xas,decide_eq_true_eq,decide_eq_false_iff_not,Xbh]at g1|- <;>first|omega|exact⟨False.elim,λh=>oM⟩
 |true=>
  have C:i<s.length:=tO h0;have gx:=ZCa C;have wi:i64.wrap ((i:Int)+1)=((i+1:Nat):Int):=Zap oM oM;have okN:ZxK i s[i]=true->i+1<=s.length/\ ∀j (I:j<s.length),j<i+1->ZxK j s[j]=true:=λh=>⟨C,λj I aa=>by by_cases e:j=i;subst e;exact h;exact J j I oM⟩
  have R:=ZCC C;generalize ec:s[i]=c;rw[ec]at gx okN R;have hc:=ZE0 i c;refine axT ?_;cases h1:decide ((c.toNat:Int)≥(65:Int))<;>cases h2:decide ((c.toNat:Int)<=(90:Int))<;>cases h3:decide ((i:Int)>(0:Int))<;>cases h4:decide ((c.toNat:Int)≥(48:Int))<;>cases h5:decide ((c.toNat:Int)<=(57:Int))<;>refine axT ?_<;>rw[h1,h2,h3,h4,h5]at hc<;>first
  |exact⟨i+1,okN hc,by show s.length-(i+1)<s.length-i;omega,Zah ⟨rfl,rfl,rfl,cI wi,trivial⟩⟩
  |(refine Zcj ?_
    repeat (first|refine ZaK ?_|refine ZaJ ?_|refine Zay ?_)
    exact cB (R hc).symm)
def Zit (c:UInt8) (r:Txt):Zb0 (c::r)=(Nat.ble (r.length+1) 8&&(Zpz c&&r.all chR)):=rfl
def ZB7 (s:Txt):PureOK Tryz.prog (Zbg bb) 41 [.v .s s] (λV=>V= .v .b (Zb0 s)):=by
 refine Zae Zaa Tryz.func41 ?_;refine auG ?_;cases s with
 |nil=>refine axT ?_;rfl
 |cons U r=>
  have h0:decide (((U::r).length:Int)=(0:Int))=false:=(by rw[decide_eq_false_iff_not,Xao];omega);have g0:(U::r)[(0:Int).toNat]? =some U:=rfl;(let⟨s,es⟩: ∃x,U::r=x:=⟨_,rfl⟩);have hl:s.length=r.length+1:=(by rw[<-es];rfl);rw[es]at h0 g0|-;cases I:decide ((s.length:Int)>(8:Int))with
  |true=>refine axT ?_;refine cB ?_;have J:Nat.ble (r.length+1) 8=false:=(by have h3:=dT I;cases hb:Nat.ble (r.length+1) 8 with|false=>rfl|true=>have:=Xam hb;omega);rw[<-es,Zit,J];rfl
  |false=>
   have ae:=fO I;have aa:Nat.ble (r.length+1) 8=true:=(by rw[Nat.ble_eq];omega);cases J:decide ((U.toNat:Int)<(65:Int))with
   |true=>have hu:Zpz U=false:=(by have:=dT J;simp[Zpz];omega);refine auG ?_;refine brT J ?_;refine auG ?_;refine cB ?_;rw[<-es,Zit,hu];simp
   |false=>
    cases h3:decide ((U.toNat:Int)>(90:Int))with
    |true=>have hu:Zpz U=false:=(by have:=dT h3;simp[Zpz];omega);refine auG ?_;refine brT h3 ?_;refine auG ?_;refine cB ?_;rw[<-es,Zit,hu];simp
    |false=>
     have hu:Zpz U=true:=(by have:=dF J;have:=dF h3;simp[Zpz];omega);have hn:Zb0 s=s.all chR:=(by rw[<-es,Zit,aa,hu,List.all_cons,show chR U=true by rw[chR,hu];rfl];simp);rw[hn];refine auG ?_;refine brF h3 ?_;clear h0 I J h3 hn es hl g0 aa hu;refine auG ?_;refine Zaq Zaa rfl (λi=> [(0, .v .s s),(24,nt s.length),(25,nt i)]) (λ_=> []) (λi=>i<=s.length/\ ∀j (hj:j<s.length),j<i->chR s[j]=true) (λi=>s.length-i) ?_ 0 ⟨Xak _,λj _ h=>absurd h (XaS j)⟩ (eK);rintro i ⟨hi,ab⟩;cases h0:decide ((i:Int)<(s.length:Int))with
     |false=>have e:=fO h0;refine axT ?_;refine cB (Eq.symm ?_);rw[XaH];intro x hx;obtain⟨j,hj,rfl⟩:=List.getElem_of_mem hx;exact ab j hj oM
     |true=>
      have ad:i<s.length:=tO h0;have gx:s[(i:Int).toNat]? =some s[i]:=(by rw[Xab];exact Xac ad);have wi:i64.wrap ((i:Int)+1)=((i+1:Nat):Int):=Zap oM oM;have okN:chR s[i]=true->i+1<=s.length/\ ∀j (hj:j<s.length),j<i+1->chR s[j]=true:=λh=>⟨ad,λj hj af=>by by_cases e:j=i;subst e;exact h;exact ab j hj oM⟩
      have R:chR s[i]=false->s.all chR=false:=λh=>(by rw[List.all_eq_false];exact⟨s[i],XaI _,by rw[h];decide⟩);(let⟨c,ec⟩: ∃x,s[i]=x:=⟨_,rfl⟩);rw[ec]at gx okN R;refine auG ?_;refine brT h0 ?_;refine auG ?_;refine auG ?_;cases I:decide ((c.toNat:Int)<(65:Int))with|true=>(cases h4:decide ((c.toNat:Int)<(48:Int))with|true=>refine auG ?_;refine brT rfl ?_;have C:chR c=false:=(by rw[ZlD,I,h4];first|rfl|simp);refine auG ?_;refine Zcj ?_;(repeat (first|refine ZaK ?_|refine ZaJ ?_|refine Zay ?_));exact cB (R C).symm|false=>cases h5:decide ((c.toNat:Int)>(57:Int))with|true=>refine auG ?_;refine brT h5 ?_;have C:chR c=false:=(by rw[ZlD,I,h4,h5];first|rfl|simp);refine auG ?_;refine Zcj ?_;(repeat (first|refine ZaK ?_|refine ZaJ ?_|refine Zay ?_));exact cB (R C).symm|false=>refine auG ?_;refine brF h5 ?_;have C:chR c=true:=(by rw[ZlD,I,h4,h5];first|rfl|simp);refine auG ?_;refine⟨i+1,okN C,by show s.length-(i+1)<s.length-i;omega, ?_⟩;exact eK)|false=>cases J:decide ((c.toNat:Int)>(90:Int))with|true=>(cases h4:decide ((c.toNat:Int)<(48:Int))with|true=>refine auG ?_;refine brT rfl ?_;have C:chR c=false:=(by rw[ZlD,I,J,h4];first|rfl|simp);refine auG ?_;refine Zcj ?_;(repeat (first|refine ZaK ?_|refine ZaJ ?_|refine Zay ?_));exact cB (R C).symm|false=>cases h5:decide ((c.toNat:Int)>(57:Int))with|true=>refine auG ?_;refine brT h5 ?_;have C:chR c=false:=(by rw[ZlD,I,J,h4,h5];first|rfl|simp);refine auG ?_;refine Zcj ?_;(repeat (first|refine ZaK ?_|refine ZaJ ?_|refine Zay ?_));exact cB (R C).symm|false=>refine auG ?_;refine brF h5 ?_;have C:chR c=true:=(by rw[ZlD,I,J,h4,h5];first|rfl|simp);refine auG ?_;refine⟨i+1,okN C,by show s.length-(i+1)<s.length-i;omega, ?_⟩;exact eK)|false=>refine auG ?_;refine brF rfl ?_;have C:chR c=true:=(by rw[ZlD,I,J];first|rfl|simp);refine auG ?_;refine⟨i+1,okN C,by show s.length-(i+1)<s.length-i;omega, ?_⟩;exact eK
variable {bb:Bool}
def ZqR (s:Txt): ∀ks:List Txt,ZwO s ks=ZdR s ks
 | []=>rfl
 |k::r=>by rw[ZwO,ZdR,ZqR s r]
abbrev ZmL (name:Txt) (j:List Txt):Ne.Item:=(name,j,decide (j.length=2),false)
def ZtY {α:Type} {l r:List α} {i:Nat} {x y:α} (h:nth l i=some y):(l++r).set i x=l.set i x++r:=by grind [List.set_append_left,Zvt]
def Zox {α:Type} {l r:List α} {i:Nat} {y:α} (h:nth l i=some y):nth (l++r) i=some y:=by rw[ZaA]at h|-;grind
def ZcD {α:Type} {a:List α} {x:α} {r:List α}:nth (a++x::r) a.length=some x:=by rw[ZaA,Xaw (Xae _),Xbi];rfl
def ZEm {P:Program} {h:Hints} {T:TypeId->TI} {F:Nat} {c:Cx} {b:Code} {tm:TM} {hp hp':List SM} {k:Ex->TM->List SM->Prop} (e:hp=hp') (hw:wp P h T F c b tm hp' k):wp P h T F c b tm hp k:=e▸hw
def vDv (nodes:List Txt) (L j n i:Nat):TM:=[(2, .ref j 0 n none),(3, .ptr L 0 0),(21, .ref j 0 n none),(22,nt n),(23,nt i)]
def ZCb (hp:List SM) (R L C base:Nat) (nodes j:List Txt) (hn:nodes.length<=1000) (aa:j.length<=1000) (hL:nth hp L=some (.cell [.mp R, .v (.l .s) nodes] true)) (hr:nth hp C=some (.row .s j true)) (F:Nat):
 LoopOK Tryz.prog (Zbg bb) F ⟨49,base,45⟩ (ZaN Tryz.f49 7) (vDv nodes L C j.length 0) hp
 (λe tm hp'=>(e= .exit 1/\(j.all λs=>ZdR s nodes)=true/\Ent F tm hp' [(2, .ref C 0 j.length none),(3, .ptr L 0 0)] hp)\/(e= .ret/\(j.all λs=>ZdR s nodes)=false/\Ent F tm hp' [(6, .v (.i .i64) (6:Int))] hp)):=by refine Zaq Zaa rfl (vDv nodes L C j.length) (λ_=>hp) (λi=>i<=j.length/\(j.all λs=>ZdR s nodes)=((j.drop i).all λs=>ZdR s nodes)) (λi=>j.length-i) ?_ 0 ⟨Xak _,rfl⟩ Zaj;rintro i ⟨hi,he⟩;cases U:decide ((i:Int)<(j.length:Int))with|false=>have e:i=j.length:=fO U;refine axT ?_;exact .inl ⟨rfl,by rw[he,e,Xbo];rfl,eK⟩|true=>have I:i<j.length:=tO U;have gx:j[0+(i:Int).toNat]? =some j[i]:=(by rw[Xab,Xag];exact Xac I);have J:((j.drop i).all λs=>ZdR s nodes)=(ZdR j[i] nodes&&(j.drop (i+1)).all λs=>ZdR s nodes):=(by rw[XaM I,List.all_cons]);(let⟨x,ex⟩: ∃x,j[i]=x:=⟨_,rfl⟩);rw[ex]at gx J;have hC:=Zwl (bb:=bb) nodes x hn;refine axT ?_;cases h2:ZdR x nodes with|true=>rw[h2]at hC J;refine axT ?_;refine⟨i+1,⟨I,he.trans J⟩,by show j.length-(i+1)<j.length-i;omega, ?_⟩;exact eK|false=>rw[h2]at hC J;refine axT ?_;(repeat (first|refine ZaK ?_|refine ZaJ ?_|refine Zay ?_));exact .inr ⟨rfl,he.trans J,eK⟩
def ZL5 (hp:List SM) (j:Nat) (nodes ks:List Txt) (name:Txt) (C:List Txt) (V:SV) (hp':List SM):Prop:=
 V= .v (.i .i64) (Zdw nodes ks (ZmL name C))/\(Zdw nodes ks (ZmL name C)=0-> ∃ex,hp'=hp.set j (.set (ks++ [name]))++ex)
def ZtJ {nodes ks:List Txt} {it:Ne.Item} (h:Zb0 it.1=false):Zdw nodes ks it=5:=by rw[Zdw,h];rfl
def ZuC {nodes ks:List Txt} {it:Ne.Item} (h:Zb0 it.1=true) (j:ZdR it.1 ks=true):Zdw nodes ks it=7:=by rw[Zdw,h,j];rfl
def ZDJ {nodes ks:List Txt} {it:Ne.Item} (h:Zb0 it.1=true) (j:ZdR it.1 ks=false) (C:(it.2.1.all λs=>ZdR s nodes)=false):Zdw nodes ks it=6:=by rw[Zdw,h,j,C];rfl
def ZqD {nodes ks:List Txt} {it:Ne.Item} (h:Zb0 it.1=true) (j:ZdR it.1 ks=false) (C:(it.2.1.all λs=>ZdR s nodes)=true):Zdw nodes ks it=bif it.2.2.1&&(it.2.1.getD 0 []==it.2.1.getD 1 [])then 3 else bif it.2.2.2 then 4 else 0:=by rw[Zdw,h,j,C];rfl
def Zvi (hp:List SM) (j J:Nat) (nodes ks:List Txt) (name:Txt) (R:List Txt) (hs:name.length<=9223372036854775806) (hn:nodes.length<=1000) (ad:R.length<=1000) (hm:nth hp j=some (.set ks)) (hr:nth hp J=some (.row .s R true)) (ai:J≠j):
 OpenOK Tryz.prog (Zbg bb) 49 [.agg [.mp j, .v (.l .s) nodes], .v .s name, .ref J 0 R.length none] hp (ZL5 hp j nodes ks name R):=by
 refine ZfP (fn:=Tryz.f49) (code:=bodyOf Tryz.f49) Zaa (by kernel_rfl) Tryz.func49 (by kernel_rfl) (Xam (by kernel_rfl)) ?_;intro base;have hN:=ZEM (bb:=bb) name hs;have U:nth (hp++ [SM.cell [.mp j, .v (.l .s) nodes] true]) hp.length=some (.cell [.mp j, .v (.l .s) nodes] true):=ZcD;have aa:nth (hp++ [SM.cell [.mp j, .v (.l .s) nodes] true]) j=some (.set ks):=Zox hm;cases h1:Zb0 name with
 |false=>rw[h1]at hN;have C:=ZtJ (nodes:=nodes) (ks:=ks) (it:=ZmL name R) h1;refine auG ?_;refine auG ?_;refine brT rfl ?_;refine auG ?_;exact⟨congrArg (λx=>SV.v (.i .i64) x) C.symm,λh=>by rw[C]at h;cases h⟩
 |true=>
  rw[h1]at hN;cases h2:ZwO name ks with
  |true=>have C:=ZuC (nodes:=nodes) (it:=ZmL name R) h1 ((ZqR name ks).symm.trans h2);refine auG ?_;refine auG ?_;refine brF rfl ?_;refine auH ?_;refine Zag rfl (ZbK rfl rfl U rfl rfl ?_);refine Zaf rfl rfl ?_;refine Zl9 ?_;refine Zag rfl (ZKG rfl rfl rfl rfl aa ?_);refine Zaf rfl rfl ?_;refine auN ?_;refine brT h2 ?_;refine auG ?_;exact⟨congrArg (λx=>SV.v (.i .i64) x) C.symm,λh=>by rw[C]at h;cases h⟩
  |false=>
   have ae:ZdR name ks=false:=(ZqR name ks).symm.trans h2;have af:(hp++ [SM.cell [.mp j, .v (.l .s) nodes] true]).set j (.set (ZCH name ks))=hp.set j (.set (ks++ [name]))++ [.cell [.mp j, .v (.l .s) nodes] true]:=(by rw[ZtY hm,Zoi h2]);have aj:nth (hp.set j (.set (ks++ [name]))++ [SM.cell [.mp j, .v (.l .s) nodes] true]) hp.length=some (.cell [.mp j, .v (.l .s) nodes] true):=(by have:=ZcD (a:=hp.set j (SM.set (ks++ [name]))) (x:=SM.cell [.mp j, .v (.l .s) nodes] true) (r:=[]);rwa[Xap]at this);have I:nth (hp.set j (.set (ks++ [name]))++ [SM.cell [.mp j, .v (.l .s) nodes] true]) J=some (.row .s R true):=Zox (by rw[ZpO λe=>ai e.symm];exact hr);have ab:=ZCb (bb:=bb) (hp.set j (.set (ks++ [name]))++ [SM.cell [.mp j, .v (.l .s) nodes] true]) j hp.length J base nodes R hn ad aj I hp.length;have ag:=ZqD (nodes:=nodes) (it:=ZmL name R) h1 ae;have ah:=ZDJ (nodes:=nodes) (it:=ZmL name R) h1 ae;refine auG ?_;refine auG ?_;refine brF rfl ?_;refine auH ?_;refine Zag rfl (ZbK rfl rfl U rfl rfl ?_);refine Zaf rfl rfl ?_;refine Zl9 ?_;refine Zag rfl (ZKG rfl rfl rfl rfl aa ?_);refine Zaf rfl rfl ?_;refine auN ?_;refine brF h2 ?_;refine auH ?_;refine Zag rfl (ZbK rfl rfl U rfl rfl ?_);refine Zaf rfl rfl ?_;refine Zl9 ?_;refine Zag rfl (ZL4 rfl rfl rfl rfl rfl aa ?_);refine Zat rfl ?_;refine Zg0 ?_;refine auG ?_;refine ZEm af ?_;refine(ab.ent ?_).through ?_;exact Zah ⟨rfl,rfl,rfl,rfl,rfl,trivial⟩;rintro _ tm hp' (⟨rfl,ha,hE⟩|⟨rfl,ha,hE⟩);refine⟨_,_,hE, ?_⟩;show wp _ _ _ _ _ _ _ _ _;have C:=ag ha;match R,ad,hr,I,ha,C with| [a,b],_,_,I,ha,C=>(have c0:(0:Int)<=(0:Int)/\(0:Int)<((2:Nat):Int):=(by omega);have c1:(0:Int)<=(1:Int)/\(1:Int)<((2:Nat):Int):=(by omega);have C:Zdw nodes ks (ZmL name [a,b])=bif a==b then 3 else 0:=C;cases h5:(a==b)with|true=>rw[h5]at C;refine auH ?_;refine Zbq rfl rfl rfl rfl (ZaI rfl rfl rfl rfl rfl I rfl c0 ?_);refine Zaf rfl rfl ?_;refine Zbq rfl rfl rfl rfl (Zbf rfl rfl I rfl rfl ?_);refine Zaf rfl rfl ?_;refine Zf8 rfl ?_;refine Zbq rfl rfl rfl rfl (ZaI rfl rfl rfl rfl rfl I rfl c1 ?_);refine Zaf rfl rfl ?_;refine Zbq rfl rfl rfl rfl (Zbf rfl rfl I rfl rfl ?_);refine Zaf rfl rfl ?_;refine auN ?_;refine brT h5 ?_;refine auG ?_;exact⟨congrArg (λx=>SV.v (.i .i64) x) C.symm,λh=>by rw[C]at h;cases h⟩|false=>rw[h5]at C;refine auH ?_;refine Zbq rfl rfl rfl rfl (ZaI rfl rfl rfl rfl rfl I rfl c0 ?_);refine Zaf rfl rfl ?_;refine Zbq rfl rfl rfl rfl (Zbf rfl rfl I rfl rfl ?_);refine Zaf rfl rfl ?_;refine Zf8 rfl ?_;refine Zbq rfl rfl rfl rfl (ZaI rfl rfl rfl rfl rfl I rfl c1 ?_);refine Zaf rfl rfl ?_;refine Zbq rfl rfl rfl rfl (Zbf rfl rfl I rfl rfl ?_);refine Zaf rfl rfl ?_;refine auN ?_;refine brF h5 ?_;refine auG ?_;exact⟨congrArg (λx=>SV.v (.i .i64) x) C.symm,λ_=>⟨_,rfl⟩⟩)| [],_,_,_,_,C=>refine auG ?_;refine brF rfl ?_;refine auG ?_;exact⟨congrArg (λx=>SV.v (.i .i64) x) C.symm,λ_=>⟨_,rfl⟩⟩| [_],_,_,_,_,C=>refine auG ?_;refine brF rfl ?_;refine auG ?_;exact⟨congrArg (λx=>SV.v (.i .i64) x) C.symm,λ_=>⟨_,rfl⟩⟩|a::b::c::r,_,_,_,_,C=>have h6:decide (((a::b::c::r).length:Int)=(2:Int))=false:=(by rw[decide_eq_false_iff_not,Xao,Xao,Xao];omega);have h7:decide ((a::b::c::r).length=2)=false:=(by rw[decide_eq_false_iff_not,Xao,Xao,Xao];omega);have C:Zdw nodes ks (ZmL name (a::b::c::r))=0:=(by rw[C];show(bif decide ((a::b::c::r).length=2)&&_ then(3:Int)else _)=0;rw[h7];rfl);refine auG ?_;refine brF rfl ?_;refine auG ?_;exact⟨congrArg (λx=>SV.v (.i .i64) x) C.symm,λ_=>⟨_,rfl⟩⟩
   have C:=ah ha;refine⟨_,_,hE, ?_⟩;exact⟨congrArg (λx=>SV.v (.i .i64) x) C.symm,λh=>by rw[C]at h;cases h⟩
end Go.Proofs.YtpdhpbldangmbaaGreatDoor
