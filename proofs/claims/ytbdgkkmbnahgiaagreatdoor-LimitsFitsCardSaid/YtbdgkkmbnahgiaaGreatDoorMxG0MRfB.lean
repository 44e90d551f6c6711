/- A part of what the laws stand on: MRfB, RfM, MRfC, RhA. -/
import Derived.Test.YtbdgkkmbnahgiaaGreatDoorMxG0MRfA
import Derived.Test.YtbdgkkmbnahgiaaGreatDoorMxG0MqA
set_option maxRecDepth 10000
set_option maxHeartbeats 8000000
namespace Go.Proofs.YtbdgkkmbnahgiaaGreatDoor
open Go.RowKit Go.Proofs.Tryz
theorem Lg{P:Program}(src dst e:TypeId)(hs:P.underlying src=some (.slice e))(he:P.underlying e=some (.int .u8))(hd:P.underlying dst=some .string)(W:World)(a:UInt8):
  (convert src dst (.slice (some ⟨W.heap.size,0,none⟩) 1 1)).run P (W.alloc (.cells #[.int .u8 (a.toNat:Int)] e))= .ok (.string ⟨#[a]⟩) (W.alloc (.cells #[.int .u8 (a.toNat:Int)] e)):=by
 have h:=Rd.lit W #[.int .u8 (a.toNat:Int)] e (xs:=bys [a]) rfl (ed _) rfl;exact ni src dst e hs he hd 1 h
theorem NG{P:Program}(src dst e:TypeId)(hs:P.underlying src=some (.slice e))(he:P.underlying e=some (.int .u8))(hd:P.underlying dst=some .string)(W:World)(a:UInt8):
  (convert src dst (.slice (some ⟨W.heap.size,0,none⟩) 1 1)).run P (W.alloc (.cells #[.int .u8 (a.toNat:Int)] e)).drew= .ok (.string ⟨#[a]⟩) (W.alloc (.cells #[.int .u8 (a.toNat:Int)] e)).drew:=by
 have h:=(Rd.lit W #[.int .u8 (a.toNat:Int)] e (xs:=bys [a]) rfl (ed _) rfl).drewN 1;exact ni src dst e hs he hd 1 h
theorem OJ{P:Program}(src dst e:TypeId)(hs:P.underlying src=some (.slice e))(he:P.underlying e=some (.int .u8))(hd:P.underlying dst=some .string){W z:World}{a:UInt8}
  (hb:Below (W.alloc (.cells #[.int .u8 (a.toNat:Int)] e)).drew.heap.size (W.alloc (.cells #[.int .u8 (a.toNat:Int)] e)).drew z):
  (convert src dst (.slice (some ⟨W.heap.size,0,none⟩) 1 1)).run P z= .ok (.string ⟨#[a]⟩) z:=by
 have h:=((Rd.lit W #[.int .u8 (a.toNat:Int)] e (xs:=bys [a]) rfl (ed _) rfl).drewN 1).below (hb.mono (by simp[World.drew]));exact ni src dst e hs he hd 1 h
theorem PB.b0{w x z:World}(h:Below w.heap.size w x)(hb:Below x.drew.heap.size x.drew z):Below w.heap.size w z:=(aV h 1).trans (hb.mono (aV h 1).size)
theorem PB.b1{w x z:World}{ob:Obj}(h:Below w.heap.size w x)(hb:Below (x.alloc ob).drew.heap.size (x.alloc ob).drew z):Below w.heap.size w z:=PB.b0 (h.alloc h.size ob) hb
theorem PB.b2{w x z:World}{ob:Obj}(h:Below w.heap.size w x)(hb:Below (x.drew.alloc ob).heap.size (x.drew.alloc ob) z):Below w.heap.size w z:=((aV h 1).alloc (aV h 1).size ob).trans (hb.mono ((aV h 1).alloc (aV h 1).size ob).size)
theorem PO{id:Int}(h:0<=id/\id<64):id=((UInt8.ofNat id.toNat).toNat:Int):=by
 rw[UInt8.toNat_ofNat'];omega
abbrev PB(w:World)(b o:Nat)(p:Pr)(x:World):Prop:=Below w.heap.size w x/\x.cell? ⟨b,o,none⟩=some (.int .i64 p.id)/\x.cell? ⟨b,o+1,none⟩=some (.int .u32 p.n)/\x.cell? ⟨b,o+2,none⟩=some (.string p.text)/\x.cell? ⟨b,o+3,none⟩=some (.string p.value)
theorem PB.of{w x:World}{b o n k:Nat}{l:List Pr}{p:Pr}(h:Rd w w.heap.size 4 (some ⟨b,o,none⟩) n (prs l))(hn:l.length=n)(hp:l[k]? =some p)(hx:Below w.heap.size w x):PB w b (o+k*4) p x:=by
 subst hn;obtain⟨hk,rfl⟩:=cR.1 hp;obtain⟨b',o',he,-,c0,c1,c2,c3⟩:=(h.below hx).atP hk;cases he;exact⟨hx,c0,c1,c2,c3⟩
theorem PB.then{w x y:World}{b o:Nat}{p:Pr}(h:PB w b o p x)(hb:Below x.heap.size x y):Below w.heap.size w y:=h.1.trans (hb.mono h.1.size)
theorem PB.more{w x:World}{b o:Nat}{p:Pr}{ob:Obj}(h:PB w b o p x):Below w.heap.size w (x.alloc ob):=h.1.alloc h.1.size _
theorem JP(kind:Int)(l:List Pr)(n:Nat)(hn:l.length=n)(hck:ckL kind l)(hg:∀p∈l,ea p)(hm:n<=1000)(A:Option Addr)(c:Nat)(w:World)(h:Rd w w.heap.size 4 A n (prs l)):
  Calls prog 364 #[.slice A n c] w fun e w'=>e= .returned (.string ⟨(l.flatMap jI).toArray⟩)/\Below w.heap.size w w':=by
 have H:=aa h;have HN:=aa hn;have HC:=aa hck;have HG:=aa hg
 clear h hn hck hg;have hcv:=Lg (P:=prog) 80 9 5 underlying80 underlying5 underlying9;have hcv1:=NG (P:=prog) 80 9 5 underlying80 underlying5 underlying9;go_enter func364,ntmps364;go_wp2
 go_loopw [3,4] (fun s i wr=>∃k:Nat,k<=n/\i= .int .i64 k/\s= .string ⟨((l.take k).flatMap jI).toArray⟩/\Below w.heap.size w wr) (fun _ i _=>n- (intOf i).toNat)
 case atStart=>exact⟨0,by omega,rfl,rfl,aq _ _⟩
 case round=>
  obtain⟨k,hk,rfl,rfl,hbel⟩:=hrel;have HB:=aa hbel;clear hbel
  by_cases hlt:k<n
  ·have hlt':k<l.length:=by rw[HN.o];exact hlt
   have hnn:=HN.o;obtain⟨b,o,hA,-,-,-,-,-⟩:=Rd.atP (A:=A) (show Rd w w.heap.size 4 A l.length (prs l) by rw[HN.o];exact H.o) hlt';subst hA;have HPk:Hid (l[k]? =some l[k]):=aa (List.getElem?_eq_getElem hlt');have hmem:l[k]∈l:=iY hlt';have hok:=nr (HC.o _ hmem);have hpg:=HG.o _ hmem;have hpl:=zC (HC.o _ hmem);have htk:(l.take (k+1)).flatMap jI=(l.take k).flatMap jI++jI l[k]:=by
    rw[fE hlt',fR];simp
   have htl:((l.take k).flatMap jI).length<=k*131075:=by
    have:=Jw (l:=l.take k) (fun p hp=>HC.o p (IU hp));exact aC this (iH _ (List.length_take_le _ _))
   clear hmem hnn;have HTK:=aa htk;clear htk
   generalize l[k]=p at*;obtain⟨id,m,t,v⟩:=p;simp only at hok hpg hpl HPk HTK;obtain⟨c8,rfl⟩:∃c8:UInt8,id=(c8.toNat:Int):=⟨UInt8.ofNat id.toNat,PO hok.1⟩;obtain⟨sh,hsh⟩:∃sh,gH (c8.toNat:Int)=sh:=⟨_,rfl⟩;rw[hsh]at hok;obtain⟨VV,hVV⟩:∃VV,kc sh ⟨(c8.toNat:Int),m,t,v⟩=VV:=⟨_,rfl⟩;have hpe:jI ⟨(c8.toNat:Int),m,t,v⟩=c8 :: ls VV:=by
    unfold jI;simp only;rw[hsh,hVV,dN];simp
   rw[hpe]at hpl HTK;have HSH:=aa hsh;have HVV:=aa hVV;have HOK:=aa hok;have HPG:=aa hpg
   clear hsh hVV hok hpg hpe;have hvl:VV.size<=131074:=by rw[bM,aN]at hpl;omega
   clear hpl;obtain⟨S,hS⟩:∃S:ByteArray,⟨((l.take k).flatMap jI).toArray⟩=S:=⟨_,rfl⟩;have hSz:S.size<=131075000:=by rw[<-hS,GW];omega
   have HS2:Hid ((⟨((l.take (k+1)).flatMap jI).toArray⟩:ByteArray)=S++⟨#[c8]⟩++VV):=aa (by
    rw[HTK.o,<-hS];refine eX ?_;rw[jo,fe,fe,jo];simp[ls])
   rw[hS];clear hS htl;have hw8:IntKind.u8.wrap (c8.toNat:Int)=(c8.toNat:Int):=by rw[GM];have:=c8.toNat_lt;omega
   have b1:(0:Int)<=(k:Int):=by omega
   have b2:(k:Int)<(n:Int):=by omega
   have hs1:¬(9223372036854775807<S.size+1):=by omega
   have hs2:¬(9223372036854775807<S.size+1+VV.size):=by omega
   obtain⟨-,c0,c1,c2,c3⟩:=PB.of H.o HN.o HPk.o HB.o;simp only at c0 c1 c2 c3;obtain⟨-,g0,g1,g2,g3⟩:=PB.of H.o HN.o HPk.o (HB.o.alloc HB.o.size (.cells #[.int .u8 (c8.toNat:Int)] 5));simp only at g0 g1 g2 g3;have hcv8:=fun W=>hcv W c8;have hcv9:=fun W=>hcv1 W c8;have HLT:=aa hlt;have HK:=aa hk
   clear hcv hcv1 hlt' hvl hSz hk hlt
   go_wp2_with fail
   go_region_law ((go_simp;go_at_call 380;refine(Ln sh ⟨(c8.toNat:Int),m,t,v⟩ HSH.o HOK.o.2.1 HOK.o.2.2.1 HPG.o.1 HOK.o.2.2.2.1 HOK.o.2.2.2.2.1 HOK.o.2.2.2.2.2 _).mono ?_;rintro e w4 ⟨rfl,hbv⟩;rw[HVV.o];have hb4:Below w.heap.size w w4:=(by first| exact PB.b0 HB.o hbv| exact PB.b1 HB.o hbv| exact PB.b2 HB.o hbv);obtain⟨-,e0,e1,e2,e3⟩:=PB.of H.o HN.o HPk.o hb4;simp only at e0 e1 e2 e3;try (have hcz:=OJ 80 9 5 underlying80 underlying5 underlying9 hbv)))
   all_goals
    go_wp2
    go_roundw
    case rel=>exact⟨k+1,HLT.o,by go_num,by rw[HS2.o],by first| exact hb4| exact hb4.alloc hb4.size _⟩
    case measure=>have:=HLT.o;simp[intOf];omega
  ·obtain rfl:k=n:=by omega
   have HT:Hid (l.take k=l):=aa (bt (by rw[HN.o];exact ac _));rw[HT.o];go_wp2;go_ret;exact⟨rfl,HB.o⟩
theorem Ox(kind:Int):∀(l:List Pr) (f:Nat->Nat) (o o':List UInt8),(eO kind l f o).2=(eO kind l f o').2
 | [],f,o,o'=>by rw[eO,eO];split<;>rfl
 | p :: l,f,o,o'=>by
   rw[eO,eO];split
   ·rfl
   ·split
    ·rfl
    ·exact Ox kind l _ _ _
def Jx(l:List Pr):Nat->Nat:=fun j=>cnt j l
theorem Lh(l:List Pr)(p:Pr):upd (Jx l) p.id.toNat (Jx l p.id.toNat+1)=Jx (l++[p]):=by
 funext j
 unfold upd Jx;rw[ME,lJ]
 by_cases h:j=p.id.toNat
 ·subst h;simp[cnt]
 ·rw[ae h,ae (fun x=>h x.symm)];simp[cnt]
theorem OA{kind:Int}{l:List Pr}{p:Pr}(hl:ckL kind l)(hp:0<=p.id):(nh l p.id).isSome=decide (1<=cnt p.id.toNat l):=by
 rw[eG,Fx];unfold nh;rw[List.find?_isSome]
 constructor
 ·rintro ⟨q,hq,he⟩;exact EX.2 ⟨q,hq,by rw[show q.id=p.id by simpa using he]⟩
 ·intro h;obtain⟨q,hq,he⟩:=EX.1 h;have:=(nr (hl q hq)).1.1;exact⟨q,hq,by simp;omega⟩
theorem Jy{kind:Int}{l:List Pr}{p:Pr}(hl:ckL kind l)(hp:de (cr p.id) kind p=0):twB kind l p.id=iC (Jx l) kind p.id.toNat:=by
 unfold twB;rw[OA hl (nr hp).1.1,KN hp];unfold iC Jx
 congr 1
 exact eb.2 (by omega)
theorem LV(l:List Pr):Kn l=jp (Jx l):=by
 have h:∀k:Nat,0<k->(nh l (k:Int)).isSome=decide (0<cnt k l):=by
  intro k hk;rw[eG,Fx];unfold nh;rw[List.find?_isSome]
  constructor
  ·rintro ⟨q,hq,he⟩;have:q.id=(k:Int):=by simpa using he
   exact EX.2 ⟨q,hq,by omega⟩
  ·intro h;obtain⟨q,hq,he⟩:=EX.1 h;exact⟨q,hq,by simp;omega⟩
 unfold Kn jp Jx;rw[show(22:Int)=((22:Nat):Int)from rfl,show(21:Int)=((21:Nat):Int)from rfl,h 22 (by omega),h 21 (by omega)]
 congr 1
 by_cases h0:cnt 21 l=0
 ·simp[h0]
 ·have:0<cnt 21 l:=by omega
  simp[this,h0]
structure VAt (kind:Int) (l:List Pr) (k:Nat):Prop where
 ck:ckL kind (l.take k)
 eq:(aM kind l).2=(eO kind (l.drop k) (Jx (l.take k)) []).2
theorem VAt.start{kind:Int}{l:List Pr}(hl:l.length<=1000):VAt kind l 0:=by
 refine⟨by simp[ckL],?_⟩;unfold aM;rw[ae (by omega)];rfl
theorem VAt.bad{kind:Int}{l:List Pr}{k:Nat}{p:Pr}(v:VAt kind l k)(hp:l[k]? =some p)(hc:de (cr p.id) kind p≠0):(aM kind l).2=de (cr p.id) kind p:=by
 obtain⟨hk,rfl⟩:=cR.1 hp;rw[v.eq,bQ hk,eO,if_pos hc]
theorem VAt.twice{kind:Int}{l:List Pr}{k:Nat}{p:Pr}(v:VAt kind l k)(hp:l[k]? =some p)(hc:de (cr p.id) kind p=0)(ht:twB kind (l.take k) p.id=true):(aM kind l).2=9:=by
 rw[Jy v.ck hc]at ht;obtain⟨hk,rfl⟩:=cR.1 hp;rw[v.eq,bQ hk,eO,ae (by simpa using hc),if_pos ht]
theorem VAt.next{kind:Int}{l:List Pr}{k:Nat}{p:Pr}(v:VAt kind l k)(hp:l[k]? =some p)(hc:de (cr p.id) kind p=0)(ht:twB kind (l.take k) p.id=false):VAt kind l (k+1):=by
 rw[Jy v.ck hc]at ht;obtain⟨hk,rfl⟩:=cR.1 hp;have htk:l.take (k+1)=l.take k++[l[k]]:=fE hk;refine⟨?_,?_⟩
 ·rw[htk];refine Kv.2 ⟨v.ck,?_⟩;intro q hq;rw[gA.1 hq];exact hc
 ·rw[v.eq,bQ hk,eO,ae (by simpa using hc),ae (by rw[ht];simp),Lh,<-htk];exact Ox kind _ _ _ _
theorem VAt.done{kind:Int}{l:List Pr}(v:VAt kind l l.length):ckL kind l/\(aM kind l).2=if Kn l=true then 9 else 0:=by
 have h1:=v.ck;have h2:=v.eq;rw[GK]at h1 h2;refine⟨h1,?_⟩;rw[h2,ox,eO,LV];split<;>rfl
theorem Hv(kind:Int)(l:List Pr)(n:Nat)(hn:l.length=n)(hg:∀p∈l,ea p)(A:Option Addr)(c:Nat)(w:World)(h:Rd w w.heap.size 4 A n (prs l))(hl:n<=4611686018427387904)(hc:n<=c):
  Calls prog 314 #[.int .i64 kind,.slice A n c] w fun e w'=>e= .returned (.int .i64 (aM kind l).2)/\Below w.heap.size w w':=by
 by_cases hbig:1000<n
 ·have HX:Hid ((aM kind l).2=4):=aa (by unfold aM;rw[if_pos (by omega)]);have d1:decide ((1000:Int)<(n:Int))=true:=au (by omega);clear hbig;go_enter func314,ntmps314;go_wp2;go_ret;exact⟨by rw[HX.o];rfl,aq _ _⟩
 have d1:decide ((1000:Int)<(n:Int))=false:=ah (by omega);have hn1:n<=1000:=by omega
 have H:=aa h;have HN:=aa hn;have HG:=aa hg;have HC:=aa hc
 have V0:=aa (VAt.start (kind:=kind) (show l.length<=1000 by omega));clear h hn hg hc hbig hl;go_enter func314,ntmps314;go_wp2
 go_loopw [5] (fun i wr=>∃k:Nat,k<=n/\i= .int .i64 k/\VAt kind l k/\Below w.heap.size w wr) (fun i _=>n- (intOf i).toNat)
 case atStart=>exact⟨0,by omega,rfl,V0.o,aq _ _⟩
 case round=>
  obtain⟨k,hk,rfl,hv,hbel⟩:=hrel;have HB:=aa hbel;have HV:=aa hv;clear hbel hv
  by_cases hlt:k<n
  ·have hlt':k<l.length:=by rw[HN.o];exact hlt
   obtain⟨b,o,hA,-,-,-,-,-⟩:=Rd.atP (A:=A) (show Rd w w.heap.size 4 A l.length (prs l) by rw[HN.o];exact H.o) hlt';subst hA;have HPk:Hid (l[k]? =some l[k]):=aa (List.getElem?_eq_getElem hlt');have HPG:=aa (HG.o _ (iY hlt'));generalize l[k]=p at*;obtain⟨id,m,t,v⟩:=p;obtain⟨-,c0,c1,c2,c3⟩:=PB.of H.o HN.o HPk.o HB.o;simp only at c0 c1 c2 c3;have b1:(0:Int)<=(k:Int):=by omega
   have b2:(k:Int)<(n:Int):=by omega
   have HLT:=aa hlt;clear hlt' hk
   by_cases hck:de (cr id) kind ⟨id,m,t,v⟩=0
   rotate_left
   ·have HX:=aa (HV.o.bad HPk.o hck);generalize hE:de (cr id) kind ⟨id,m,t,v⟩=E at*;have HE:=aa hE;have e0:(E !=0)=true:=aA.2 hck;clear hck hE
    go_wp2_with fail
    refine(Jp kind ⟨id,m,t,v⟩ (rU HPG.o) _).mono ?_;rintro e w1 ⟨rfl,hb⟩;rw[HE.o];have HB1:=aa (HB.o.trans (hb.mono HB.o.size));clear hb
    go_wp2;go_ret;exact⟨by rw[HX.o];(try dsimp only);rfl,HB1.o⟩
   have HCK:=aa hck;clear hck
   go_wp2_with fail
   refine(Jp kind ⟨id,m,t,v⟩ (rU HPG.o) _).mono ?_;rintro e w1 ⟨rfl,hb⟩;rw[HCK.o];have HB1:=aa (HB.o.trans (hb.mono HB.o.size));clear hb c0 c1 c2 c3
   obtain⟨-,c0,c1,c2,c3⟩:=PB.of H.o HN.o HPk.o HB1.o;simp only at c0 c1 c2 c3;have S1:=fun W=>Bi (P:=prog) underlying23 M9 (some ⟨b,o,none⟩) n c k (by have:=HC.o;omega) W;have c0':=fun n'=>(show(w1.drewN n').cell? ⟨b,o+k*4,none⟩=some (.int .i64 id)from c0);have HTW:∀d os,Calls prog 346 #[.int .i64 kind,.slice (some ⟨b,o,none⟩) k c,.int .i64 id] (Sort.grow (redrawn w1 d) os) fun e w''=>e= .returned (.bool (twB kind (l.take k) id))/\∃p:Regrown,w''=Sort.grow (redrawn w1 p.d) p.os:=
    jw (fun x hx=>Lo kind id (l.take k) k (by rw[cY,HN.o];have:=HLT.o;omega) (some ⟨b,o,none⟩) c x
     (by
       have h1:=((H.o.below HB1.o).wider HB1.o.size).below hx;have h2:=(h1.wider hx.size).cut_to (k:=k) (by have:=HLT.o;omega);rw[Oh]at h2;exact h2) (by have:=HLT.o;omega))
   have k0:=cell_regrown c0;have HBQ:=aa (fun d os=>HB1.o.trans ((below_regrown w1 d os).mono HB1.o.size));cases htw:twB kind (l.take k) id
   ·have HVN:=aa (HV.o.next HPk.o HCK.o htw);rw[htw]at HTW;clear htw c0 c1 c2 c3 c0'
    go_wp2_with fail
    refine wp_region_quiet_below (by kernel_rfl) (by kernel_rfl) ?_
    repeat (go_big_quiet_step (first| with_reducible exact HTW _ _))
    refine kE ?_;intro _ hw';obtain⟨⟨dq,osq⟩,hw''⟩:=hw';subst hw'';have KF:=aa (HBQ.o dq osq);clear HTW k0 HBQ S1;generalize Sort.grow (redrawn _ dq) osq=wq at*;go_wp2
    go_roundw
    case rel=>exact⟨k+1,HLT.o,by go_num,HVN.o,KF.o⟩
    case measure=>have:=HLT.o;simp[intOf];omega
   ·have HX:=aa (HV.o.twice HPk.o HCK.o htw);rw[htw]at HTW;clear htw c0 c1 c2 c3 c0'
    go_wp2_with fail
    refine wp_region_quiet_below (by kernel_rfl) (by kernel_rfl) ?_
    repeat (go_big_quiet_step (first| with_reducible exact HTW _ _))
    refine kE ?_;intro _ hw';obtain⟨⟨dq,osq⟩,hw''⟩:=hw';subst hw'';have KF:=aa (HBQ.o dq osq);clear HTW k0 HBQ S1;generalize Sort.grow (redrawn _ dq) osq=wq at*;go_wp2;go_ret;exact⟨by rw[HX.o];rfl,KF.o⟩
  ·obtain rfl:k=n:=by omega
   have hd:=(show VAt kind l l.length by rw[HN.o];exact HV.o).done;have HCL:=aa hd.1;have HXX:=aa hd.2;have HR:=aa ((H.o.below HB.o).wider HB.o.size);clear hd;cases hlo:Kn l
   ·have HX:Hid ((aM kind l).2=0):=aa (by rw[HXX.o,hlo];rfl);have HLO:=aa hlo;clear hlo
    have hz:((⟨(l.flatMap jI).toArray⟩:ByteArray).size:Int)<=268435455:=by rw[GW];have:=(G6 kind l HX.o).1;omega
    have dz:decide ((268435455:Int)<((⟨(l.flatMap jI).toArray⟩:ByteArray).size:Int))=false:=ah (by omega)
    go_wp2_with fail
    refine(JN l k HN.o A c _ HR.o (by omega)).mono ?_;rintro e w1 ⟨rfl,hb⟩;rw[HLO.o];have HB1:=aa (HB.o.trans (hb.mono HB.o.size));have HR1:=aa ((HR.o.below hb).wider hb.size);clear hb
    go_wp2_with fail
    refine(JP kind l k HN.o HCL.o HG.o hn1 A c _ HR1.o).mono ?_;rintro e w2 ⟨rfl,hb⟩;have HB2:=aa (HB1.o.trans (hb.mono HB1.o.size));clear hb
    generalize (⟨(l.flatMap jI).toArray⟩:ByteArray)=Z at*;go_wp2;go_ret;exact⟨by rw[HX.o];rfl,HB2.o⟩
   ·have HX:Hid ((aM kind l).2=9):=aa (by rw[HXX.o,hlo];rfl);have HLO:=aa hlo;clear hlo
    go_wp2_with fail
    refine(JN l k HN.o A c _ HR.o (by omega)).mono ?_;rintro e w1 ⟨rfl,hb⟩;rw[HLO.o];have HB1:=aa (HB.o.trans (hb.mono HB.o.size));clear hb
    go_wp2;go_ret;exact⟨by rw[HX.o];rfl,HB1.o⟩
theorem KI(kind:Int)(l:List Pr)(n:Nat)(hn:l.length=n)(hg:∀p∈l,ea p)(A:Option Addr)(c:Nat)(w:World)(h:Rd w w.heap.size 4 A n (prs l))(hl:n<=4611686018427387904)(hc:n<=c):
  Calls prog 323 #[.int .i64 kind,.slice A n c] w fun e w'=>e= .returned (.tuple #[.string ⟨(aM kind l).1.toArray⟩,.int .i64 (aM kind l).2])/\Below w.heap.size w w':=by
 have H:=aa h;have HN:=aa hn;have HG:=aa hg;have HC:=aa hc
 clear h hn hg hc
 by_cases hE:(aM kind l).2=0
 rotate_left
 ·have hb:=Ix kind l hE;have HX:Hid (aM kind l=([],(aM kind l).2)):=aa (by rw[<-hb]);generalize (aM kind l).2=E at*;have HE:=aa hE;have e0:(E !=0)=true:=aA.2 hE;clear hE hb;go_enter func323,ntmps323
  go_wp2_with fail
  refine(Hv kind l n HN.o HG.o A c _ H.o hl HC.o).mono ?_;rintro e w1 ⟨rfl,hb⟩;rw[HX.o];have HB:=aa hb;clear hb
  simp only;go_wp2;go_ret2;exact⟨by rw[HX.o];rfl,HB.o⟩
 have HE:=aa hE;have hb:=tE kind l hE;have hs:=(G6 kind l hE).1;have hok:=(sx kind l).1 hE;have HCL:=aa hok.2.1;have HN1:Hid (n<=1000):=aa (by rw[<-HN.o];exact hok.1);have HB0:=aa hb;have HV:Hid ((eP (l.flatMap jI).length).length<=4):=aa (by rw[LG];split;omega;split;omega;split;omega;omega);obtain⟨Z,hZ⟩:∃Z:ByteArray,⟨(l.flatMap jI).toArray⟩=Z:=⟨_,rfl⟩;have hzs:Z.size<=131075000:=by rw[<-hZ,GW];exact hs
 have hzl:(l.flatMap jI).length=Z.size:=by rw[<-hZ,GW]
 have HZ:=aa hZ;have HX:Hid ((⟨(aM kind l).1.toArray⟩:ByteArray)=⟨(eP Z.size).toArray⟩++Z):=aa (by rw[hb,<-hzl,<-hZ];exact P7 _ _);rw[hzl]at HV;clear hE hb hs hok hZ hzl;obtain⟨V,hV⟩:∃V:ByteArray,⟨(eP Z.size).toArray⟩=V:=⟨_,rfl⟩;have HVS:Hid (V.size<=4):=aa (by rw[<-hV,GW];exact HV.o);have HVV:=aa hV;rw[hV]at HX;have hsum:¬(9223372036854775807<V.size+Z.size):=by have:=HVS.o;omega
 clear hV;go_enter func323,ntmps323
 go_wp2_with fail
 refine(Hv kind l n HN.o HG.o A c _ H.o hl HC.o).mono ?_;rintro e w1 ⟨rfl,hb⟩;rw[HE.o];have HB:=aa hb;have HR:=aa ((H.o.below hb).wider hb.size);clear hb
 go_wp2_with fail
 refine(JP kind l n HN.o HCL.o HG.o HN1.o A c _ HR.o).mono ?_;rintro e w2 ⟨rfl,hb⟩;rw[HZ.o];have HB1:=aa (HB.o.trans (hb.mono HB.o.size));clear hb
 go_wp2_with fail
 refine(IB Z.size _ (by omega)).mono ?_;rintro e w3 ⟨rfl,hb⟩;rw[HVV.o];have HB2:=aa (HB1.o.trans (hb.mono HB1.o.size));clear hb
 go_wp2;go_ret2;exact⟨by rw[HX.o,HE.o];rfl,HB2.o⟩
section
attribute [local go_sem] Mj Mi
theorem Qp{t:ByteArray}{a i j:Nat}(hj:a+j<=t.size):(t.extract a t.size).extract i j=t.extract (a+i) (a+j):=by
 refine eX ?_;have e1:∀(s:ByteArray) (i j:Nat),ls (s.extract i j)=(ls s).extract i j:=fun s i j=>by
  unfold ls;simp[ByteArray.data_extract]
 rw[e1,e1,e1];simp only[List.extract_eq_take_drop,List.drop_take,et,List.take_take]
 congr 1
 rw[Nat.min_def];split<;>omega
end
section
theorem Iu{T:ByteArray}{a:Nat}(ha:a<=T.size)(b:Nat)(e n:Int):bp T (a+b) e n=((bp (T.extract a T.size) b e n).1,a+(bp (T.extract a T.size) b e n).2.1,(bp (T.extract a T.size) b e n).2.2):=by
 have hz:((T.extract a T.size).size:Int)=(T.size:Int) - a:=by rw[aj];omega
 have hh:jQ T (a+b) n=jQ (T.extract a T.size) b n:=by
  unfold jQ;rw[hz]
  congr 1
  exact eb.2 (by omega)
 unfold bp;rw[hh]
 by_cases he:e=0
 ·rw[if_pos he,if_pos he]
  by_cases hc:jQ (T.extract a T.size) b n=true
  ·have h2:0<=n/\n<=((T.extract a T.size).size:Int) - b:=by simpa [jQ]using hc
   rw[if_pos hc,if_pos hc,Qp (by omega)];simp only[bG,Hj];exact⟨by rw[Nat.add_assoc],by omega⟩
  ·rw[ae hc,ae hc]
 ·rw[ae he,ae he]
theorem Ku{T:ByteArray}{a:Nat}(ha:a<=T.size)(b:Nat)(e:Int):dH T (a+b) e=((dH (T.extract a T.size) b e).1,a+(dH (T.extract a T.size) b e).2.1,(dH (T.extract a T.size) b e).2.2):=by
 unfold dH;rw[Iu ha b e 2];simp only;rw[Iu ha]
theorem Jq{T:ByteArray}{a:Nat}(ha:a<=T.size)(b:Nat)(e:Int):dd T (a+b) e=((dd (T.extract a T.size) b e).1,a+(dd (T.extract a T.size) b e).2.1,(dd (T.extract a T.size) b e).2.2):=by
 unfold dd;rw[Ku ha]
theorem Mq{T:ByteArray}{a:Nat}(ha:a<=T.size)(b:Nat)(e:Int):jJ T (a+b) e=((jJ (T.extract a T.size) b e).1,a+(jJ (T.extract a T.size) b e).2.1,(jJ (T.extract a T.size) b e).2.2):=by
 unfold jJ;rw[Jq ha b e];simp only;rw[Jq ha]
theorem MW{T:ByteArray}{a:Nat}(b:Nat):mz T (a+b)=((mz (T.extract a T.size) b).1,a+(mz (T.extract a T.size) b).2.1,(mz (T.extract a T.size) b).2.2):=by
 unfold mz;rw[ju,et];split
 ·simp only[Nat.add_assoc]
 ·rfl
theorem MX{T:ByteArray}{a:Nat}(ha:a<=T.size)(sh b:Nat):dW sh T (a+b)= {dW sh (T.extract a T.size) b with at_:=a+(dW sh (T.extract a T.size) b).at_}:=by
 unfold dW;rw[Iu ha b 0 1,Iu ha b 0 2,Iu ha b 0 4,MW,Jq ha,Ku ha,Mq ha]
 repeat' split
 all_goals rfl
structure LAt (kind:Int) (T:ByteArray) (m a:Nat) (out:List Pr):Prop where
 le:a<=T.size
 lt:T.size<a+m
 ck:ckL kind out
 len:out.length<=1000
 eq:fq kind T=iy kind T m a (Jx out) out
theorem LAt.start(kind:Int)(T:ByteArray):LAt kind T (T.size+1) 0 []:=⟨by omega,by omega,by simp[ckL],ag _,rfl⟩
section
variable {kind:Int} {T:ByteArray} {m a sh:Nat} {out:List Pr} {b0:UInt8}
theorem LAt.done(v:LAt kind T m a out)(h:¬a<T.size):fq kind T=if Kn out=true then([],9)else(out,0):=by
 obtain⟨k,rfl⟩:∃k,m=k+1:=⟨m- 1,by have:=v.lt;have:=v.le;omega⟩;have h':T.size<=a:=by omega
 rw[v.eq,iy,if_pos h',LV]
structure Rnd (kind:Int) (T:ByteArray) (m a:Nat) (out:List Pr) (b0:UInt8) (sh:Nat):Prop where
 at_:LAt kind T m a out
 lt:a<T.size
 id:fa T a=b0.toNat
 shape:gH (b0.toNat:Int)=sh
def rdQ(sh:Nat)(b0:UInt8)(X:ByteArray):Pr:=⟨b0.toNat,(dW sh X 1).n,(dW sh X 1).text,(dW sh X 1).value⟩
theorem Rnd.go(r:Rnd kind T m a out b0 sh):∃k,m=k+1/\fq kind T=(if ng (cr (b0.toNat:Int)) kind=false then([],9)
  else if(dW sh (T.extract a T.size) 1).err≠0 then([],(dW sh (T.extract a T.size) 1).err)
  else if de (cr (rdQ sh b0 (T.extract a T.size)).id) kind (rdQ sh b0 (T.extract a T.size))≠0 then([],de (cr (rdQ sh b0 (T.extract a T.size)).id) kind (rdQ sh b0 (T.extract a T.size)))
  else if iC (Jx out) kind b0.toNat=true then([],9)else if out.length=1000 then([],4)
  else iy kind T k (a+(dW sh (T.extract a T.size) 1).at_) (upd (Jx out) b0.toNat (Jx out b0.toNat+1)) (out++[rdQ sh b0 (T.extract a T.size)])):=by
 obtain⟨k,rfl⟩:∃k,m=k+1:=⟨m- 1,by have:=r.at_.lt;have:=r.lt;omega⟩;refine⟨k,rfl,?_⟩;rw[r.at_.eq,iy,ae (by have:=r.lt;omega)];have hs:(cr ((fa T a:Nat):Int)).shape=sh:=by rw[r.id];exact r.shape
 have hv:=MX (T:=T) (a:=a) r.at_.le sh 1;rw[hs,hv,r.id];rfl
theorem Rnd.err(r:Rnd kind T m a out b0 sh)(h:Jv kind (b0.toNat:Int)=true)(h1:(dW sh (T.extract a T.size) 1).err≠0):fq kind T=([],(dW sh (T.extract a T.size) 1).err):=by
 obtain⟨k,-,he⟩:=r.go;rw[he,ae (fun x=>by rw[show ng _ kind=true from h]at x;cases x),if_pos h1]
theorem Rnd.bad(r:Rnd kind T m a out b0 sh)(h:Jv kind (b0.toNat:Int)=true)(h1:(dW sh (T.extract a T.size) 1).err=0){q:Pr}(hq:rdQ sh b0 (T.extract a T.size)=q)(h2:de (cr q.id) kind q≠0):fq kind T=([],de (cr q.id) kind q):=by
 obtain⟨k,-,he⟩:=r.go;subst hq;rw[he,ae (fun x=>by rw[show ng _ kind=true from h]at x;cases x),ae (by simpa using h1),if_pos h2]
theorem Rnd.twice(r:Rnd kind T m a out b0 sh)(h:Jv kind (b0.toNat:Int)=true)(h1:(dW sh (T.extract a T.size) 1).err=0){q:Pr}(hq:rdQ sh b0 (T.extract a T.size)=q)(h2:de (cr q.id) kind q=0)(h3:twB kind out q.id=true):fq kind T=([],9):=by
 obtain⟨k,-,he⟩:=r.go;rw[Jy r.at_.ck h2]at h3;subst hq;rw[he,ae (fun x=>by rw[show ng _ kind=true from h]at x;cases x),ae (by simpa using h1),ae (by simpa using h2)];rw[show iC (Jx out) kind b0.toNat=true from h3];rfl
theorem Rnd.rest(r:Rnd kind T m a out b0 sh)(h:Jv kind (b0.toNat:Int)=true)(h1:(dW sh (T.extract a T.size) 1).err=0){q:Pr}(hq:rdQ sh b0 (T.extract a T.size)=q)(h2:de (cr q.id) kind q=0)(h3:twB kind out q.id=false):
  (out.length=1000->fq kind T=([],4))/\(out.length≠1000->∃k,LAt kind T k (a+(dW sh (T.extract a T.size) 1).at_) (out++[q])):=by
 obtain⟨k,hk,he⟩:=r.go;rw[Jy r.at_.ck h2]at h3;subst hq;rw[ae (fun x=>by rw[show ng _ kind=true from h]at x;cases x),ae (by simpa using h1),ae (by simpa using h2)]at he;rw[show iC (Jx out) kind b0.toNat=false from h3]at he;rw[ae (by simp)]at he;refine⟨fun h4=>by rw[he,if_pos h4],fun h4=>⟨k,?_,?_,?_,?_,?_⟩⟩
 ·have:=(xO (t:=T.extract a T.size) (a:=1) (by rw[aj];have:=r.lt;omega) sh).2;rw[aj]at this;have:=r.lt;omega
 ·have:=(xO (t:=T.extract a T.size) (a:=1) (by rw[aj];have:=r.lt;omega) sh).1;have:=r.at_.lt;omega
 ·refine Kv.2 ⟨r.at_.ck,?_⟩;intro q hq;rw[gA.1 hq];exact h2
 ·rw[List.length_append];have:=r.at_.len;simp only[qU];omega
 ·rw[he,ae h4];rw[<-Lh out (rdQ sh b0 (T.extract a T.size))];rfl
end
end
theorem JE(A A':Option Addr)(n m c c':Nat)(l l':List Pr)(w:World)(e1:l.length=n)(e2:l'.length=m)(hl:Rd w w.heap.size 4 A n (prs l))(hm:Rd w w.heap.size 4 A' m (prs l'))(hn:n<=4611686018427387904)(hn':m<=4611686018427387904):
  Calls prog 315 #[.slice A n c,.slice A' m c'] w fun e w'=>e= .returned (.bool (decide (l=l')))/\Below w.heap.size w w':=by
 have hgt:=qz
 by_cases hlen:n=m
 ·subst hlen;have E1:=aa e1;have E2:=aa e2;clear e1 e2
  have HL:=aa hl;have HM:=aa hm;clear hl hm
  go_enter func315,ntmps315;go_wp2
  go_loopw [5] (fun i wr=>∃k:Nat,k<=n/\i= .int .i64 k/\(∀j,j<k->l[j]? =l'[j]?)/\Below w.heap.size w wr) (fun i _=>n- (intOf i).toNat)
  case atStart=>exact⟨0,by omega,rfl,fun j hj=>by omega,aq _ _⟩
  case round=>
   obtain⟨k,hk,rfl,hall,hbel⟩:=hrel;have HA:=aa hall;clear hall
   by_cases hlt:k<n
   ·obtain⟨bA,oA,rfl,hb,c0,c1,c2,c3⟩:=(show Rd w w.heap.size 4 A l.length (prs l) by rw[E1.o];exact HL.o).below hbel |>.atP (show k<l.length by rw[E1.o];exact hlt);obtain⟨bA',oA',rfl,hb',d0,d1,d2,d3⟩:=(show Rd w w.heap.size 4 A' l'.length (prs l') by rw[E2.o];exact HM.o).below hbel |>.atP (show k<l'.length by rw[E2.o];exact hlt);have HZ:Hid (l[k]? =some (l[k]'(by rw[E1.o];exact hlt))):=aa (List.getElem?_eq_getElem _);have HZ':Hid (l'[k]? =some (l'[k]'(by rw[E2.o];exact hlt))):=aa (List.getElem?_eq_getElem _);generalize l[k]'(by rw[E1.o];exact hlt)=p at*;generalize l'[k]'(by rw[E2.o];exact hlt)=q at*;have b1:(0:Int)<=(k:Int):=by omega
    have b2:(k:Int)<(n:Int):=by omega
    have hne:=fun W=>Cb p q W
    by_cases he:p=q
    ·subst he;have hd:decide (p=p)=true:=by simp
     rw[hd]at hne;clear hd;go_wp2
     go_quiet (fail)
     go_wp2
     go_roundw
     case rel=>
      refine⟨k+1,by omega,by go_num,fun j hj=>?_,aV hbel _⟩;rcases dx.1 hj with h| rfl
      ·exact HA.o j h
      ·rw[HZ.o,HZ'.o]
     case measure=>simp[intOf];omega
    ·have hd:decide (p=q)=false:=ah he;rw[hd]at hne;have HE:=aa he;clear he hd
     go_wp2
     go_quiet (fail)
     go_wp2;go_ret;refine⟨?_,aV hbel _⟩;have:l≠l':=by
      rintro rfl;have:=HZ.o.symm.trans HZ'.o;exact HE.o (by simpa using this)
     simp[this]
   ·go_wp2;go_ret;refine⟨?_,hbel⟩;have:l=l':=by
     apply dM;intro j
     by_cases hj:j<k
     ·exact HA.o j hj
     ·rw[aG (by have:=E1.o;omega),aG (by have:=E2.o;omega)]
    simp[this]
 ·have h1:((n:Int) != (m:Int))=true:=by simpa using (by omega:¬(n:Int)=(m:Int))
  have HN:=aa hlen;have E1:=aa e1;have E2:=aa e2;clear hlen e1 e2 hl hm
  go_enter func315,ntmps315;go_wp2;go_ret;refine⟨?_,aq _ _⟩;have:l≠l':=by
   rintro rfl;exact HN.o (E1.o.symm.trans E2.o)
  simp[this]
theorem Rd.grow{w:World}{k n:Nat}{A:Option Addr}{xs:List Value}(h:Rd w w.heap.size k A n xs)(o:Obj):Rd (w.alloc o) (w.alloc o).heap.size k A n xs:=(h.alloc (ac _) o).wider (by simp)
theorem LM(A A':Option Addr)(n m c c':Nat)(l l':List Int)(w:World)(hl:Rd w w.heap.size 1 A n (iv l))(hm:Rd w w.heap.size 1 A' m (iv l'))(hn:n<=9223372036854775807)(hn':m<=9223372036854775807):
  Calls prog 316 #[.slice A n c,.slice A' m c'] w fun e w'=>e= .returned (.bool (decide (l=l')))/\Below w.heap.size w w':=by
 have e1:l.length=n:=by have:=hl.len;simp[iv]at this;omega
 have e2:l'.length=m:=by have:=hm.len;simp[iv]at this;omega
 have E1:=aa e1;have E2:=aa e2;clear e1 e2
 by_cases hlen:n=m
 ·subst hlen;go_enter func316,ntmps316;go_wp2
  go_loopw [5] (fun i wr=>∃k:Nat,k<=n/\i= .int .i64 k/\(∀j,j<k->l[j]? =l'[j]?)/\Below w.heap.size w wr) (fun i _=>n- (intOf i).toNat)
  case atStart=>exact⟨0,by omega,rfl,fun j hj=>by omega,aq _ _⟩
  case round=>
   obtain⟨k,hk,rfl,hall,hbel⟩:=hrel;have HA:=aa hall;clear hall
   by_cases hlt:k<n
   ·obtain⟨bA,oA,z,rfl,hb,hz,hc⟩:=(hl.below hbel).atI hlt;obtain⟨bA',oA',z',rfl,hb',hz',hc'⟩:=(hm.below hbel).atI hlt;have HZ:=aa hz;have HZ':=aa hz';clear hz hz' hl hm
    have b1:(0:Int)<=(k:Int):=by omega
    have b2:(k:Int)<(n:Int):=by omega
    by_cases he:z=z'
    ·subst he;go_wp2
     go_quiet (fail)
     go_wp2
     go_roundw
     case rel=>
      refine⟨k+1,by omega,by go_num,fun j hj=>?_,aV hbel _⟩;rcases dx.1 hj with h| rfl
      ·exact HA.o j h
      ·rw[HZ.o,HZ'.o]
     case measure=>simp[intOf];omega
    ·have h1:(z !=z')=true:=by simpa using he
     have HE:=aa he;clear he
     go_wp2
     go_quiet (fail)
     go_wp2;go_ret;refine⟨?_,aV hbel _⟩;have:l≠l':=by
      rintro rfl;have:=HZ.o.symm.trans HZ'.o;exact HE.o (by simpa using this)
     simp[this]
   ·go_wp2;go_ret;refine⟨?_,hbel⟩;have:l=l':=by
     apply dM;intro j
     by_cases hj:j<k
     ·exact HA.o j hj
     ·rw[aG (by have:=E1.o;omega),aG (by have:=E2.o;omega)]
    simp[this]
 ·have h1:((n:Int) != (m:Int))=true:=by simpa using (by omega:¬(n:Int)=(m:Int))
  have HN:=aa hlen;clear hlen
  go_enter func316,ntmps316;go_wp2;go_ret;refine⟨?_,aq _ _⟩;have:l≠l':=by
   rintro rfl;exact HN.o (E1.o.symm.trans E2.o)
  simp[this]
theorem JY(A A':Option Addr)(n m c c':Nat)(l l':List Fi)(w:World)(e1:l.length=n)(e2:l'.length=m)(hl:Rd w w.heap.size 5 A n (fis l))(hm:Rd w w.heap.size 5 A' m (fis l'))(hn:n<=4611686018427387904)(hn':m<=4611686018427387904):
  Calls prog 317 #[.slice A n c,.slice A' m c'] w fun e w'=>e= .returned (.bool (decide (l=l')))/\Below w.heap.size w w':=by
 have hgt:=kP
 by_cases hlen:n=m
 ·subst hlen;have E1:=aa e1;have E2:=aa e2;clear e1 e2
  have HL:=aa hl;have HM:=aa hm;clear hl hm
  go_enter func317,ntmps317;go_wp2
  go_loopw [5] (fun i wr=>∃k:Nat,k<=n/\i= .int .i64 k/\(∀j,j<k->l[j]? =l'[j]?)/\Below w.heap.size w wr) (fun i _=>n- (intOf i).toNat)
  case atStart=>exact⟨0,by omega,rfl,fun j hj=>by omega,aq _ _⟩
  case round=>
   obtain⟨k,hk,rfl,hall,hbel⟩:=hrel;have HA:=aa hall;clear hall
   by_cases hlt:k<n
   ·obtain⟨bA,oA,rfl,hb,c0,c1,c2,c3,c4⟩:=(show Rd w w.heap.size 5 A l.length (fis l) by rw[E1.o];exact HL.o).below hbel |>.atF (show k<l.length by rw[E1.o];exact hlt);obtain⟨bA',oA',rfl,hb',d0,d1,d2,d3,d4⟩:=(show Rd w w.heap.size 5 A' l'.length (fis l') by rw[E2.o];exact HM.o).below hbel |>.atF (show k<l'.length by rw[E2.o];exact hlt);have HZ:Hid (l[k]? =some (l[k]'(by rw[E1.o];exact hlt))):=aa (List.getElem?_eq_getElem _);have HZ':Hid (l'[k]? =some (l'[k]'(by rw[E2.o];exact hlt))):=aa (List.getElem?_eq_getElem _);generalize l[k]'(by rw[E1.o];exact hlt)=p at*;generalize l'[k]'(by rw[E2.o];exact hlt)=q at*;have b1:(0:Int)<=(k:Int):=by omega
    have b2:(k:Int)<(n:Int):=by omega
    have hne:=fun W=>wQ p q W
    by_cases he:p=q
    ·subst he;have hd:decide (p=p)=true:=by simp
     rw[hd]at hne;clear hd;go_wp2
     go_quiet (fail)
     go_wp2
     go_roundw
     case rel=>
      refine⟨k+1,by omega,by go_num,fun j hj=>?_,aV hbel _⟩;rcases dx.1 hj with h| rfl
      ·exact HA.o j h
      ·rw[HZ.o,HZ'.o]
     case measure=>simp[intOf];omega
    ·have hd:decide (p=q)=false:=ah he;rw[hd]at hne;have HE:=aa he;clear he hd
     go_wp2
     go_quiet (fail)
     go_wp2;go_ret;refine⟨?_,aV hbel _⟩;have:l≠l':=by
      rintro rfl;have:=HZ.o.symm.trans HZ'.o;exact HE.o (by simpa using this)
     simp[this]
   ·go_wp2;go_ret;refine⟨?_,hbel⟩;have:l=l':=by
     apply dM;intro j
     by_cases hj:j<k
     ·exact HA.o j hj
     ·rw[aG (by have:=E1.o;omega),aG (by have:=E2.o;omega)]
    simp[this]
 ·have h1:((n:Int) != (m:Int))=true:=by simpa using (by omega:¬(n:Int)=(m:Int))
  have HN:=aa hlen;have E1:=aa e1;have E2:=aa e2;clear hlen e1 e2 hl hm
  go_enter func317,ntmps317;go_wp2;go_ret;refine⟨?_,aq _ _⟩;have:l≠l':=by
   rintro rfl;exact HN.o (E1.o.symm.trans E2.o)
  simp[this]
theorem JO(v k:Int)(w:World):Calls prog 132 #[.int .i64 v,.int .i64 k] w fun e w'=>e= .returned (.bool (dS v k))/\w=w':=by
 have HE:Hid (dS v k=decide (1<=k/\(k<=14\/(k=15/\v=5)))):=aa rfl
 by_cases h1:1<=k
 rotate_left
 ·have HX:Hid (dS v k=false):=aa (by rw[HE.o];exact ah (by omega));have d1:decide ((1:Int)<=k)=false:=ah h1;clear h1;go_enter func132,ntmps132;go_wp2;go_ret;exact⟨by rw[HX.o];rfl,rfl⟩
 have d1:decide ((1:Int)<=k)=true:=au h1
 by_cases h14:k<15
 ·have HX:Hid (dS v k=true):=aa (by rw[HE.o];exact au (by omega));have d2:decide (k<(15:Int))=true:=au h14;clear h1 h14;go_enter func132,ntmps132;go_wp2;go_ret;exact⟨by rw[HX.o];rfl,rfl⟩
 have d2:decide (k<(15:Int))=false:=ah h14
 by_cases h15:k=15
 rotate_left
 ·have HX:Hid (dS v k=false):=aa (by rw[HE.o];exact ah (by omega));have d3:(k==15)=false:=ar.2 h15;clear h1 h14 h15;go_enter func132,ntmps132;go_wp2;go_ret;exact⟨by rw[HX.o];rfl,rfl⟩
 have d3:(k==15)=true:=aK.2 h15
 by_cases h5:v=5
 ·have HX:Hid (dS v k=true):=aa (by rw[HE.o];exact au (by omega));have d4:(v==5)=true:=aK.2 h5;clear h1 h14 h15 h5;go_enter func132,ntmps132;go_wp2;go_ret;exact⟨by rw[HX.o];rfl,rfl⟩
 ·have HX:Hid (dS v k=false):=aa (by rw[HE.o];exact ah (by omega));have d4:(v==5)=false:=ar.2 h5;clear h1 h14 h15 h5;go_enter func132,ntmps132;go_wp2;go_ret;exact⟨by rw[HX.o];rfl,rfl⟩
theorem KG(f:Int)(w:World):Calls prog 191 #[.int .i64 3,.int .i64 f] w fun e w'=>e= .returned (.bool (gd f))/\w=w':=by
 by_cases h0:0<=f
 rotate_left
 ·have HX:Hid (gd f=false):=aa (by unfold gd;exact ah (by omega));have d0:decide ((0:Int)<=f)=false:=ah h0;clear h0;go_enter func191,ntmps191;go_wp2;go_ret;exact⟨by rw[HX.o];rfl,rfl⟩
 by_cases h15:f<=15
 rotate_left
 ·have HX:Hid (gd f=false):=aa (by unfold gd;exact ah (by omega));have d1:decide (f<=(15:Int))=false:=ah h15;clear h15;go_enter func191,ntmps191;go_wp2;go_ret;exact⟨by rw[HX.o];rfl,rfl⟩
 have hh:f=0\/f=1\/f=2\/f=3\/f=4\/f=5\/f=6\/f=7\/f=8\/f=9\/f=10\/f=11\/f=12\/f=13\/f=14\/f=15:=by omega
 clear h0 h15;obtain rfl| rfl| rfl| rfl| rfl| rfl| rfl| rfl| rfl| rfl| rfl| rfl| rfl| rfl| rfl| rfl:=hh
 all_goals
  go_enter func191,ntmps191;go_wp2;go_ret;exact⟨by rfl,rfl⟩
def Hq(v kind:Int)(l:List Pr):ByteArray:=if v=4 then⟨#[]⟩else⟨(aM kind l).1.toArray⟩
theorem G5(v kind:Int)(l:List Pr)(n:Nat)(hn:l.length=n)(hg:∀p∈l,ea p)(A:Option Addr)(c:Nat)(w:World)(h:Rd w w.heap.size 4 A n (prs l))(hl:n<=4611686018427387904)(hc:n<=c):
  Calls prog 252 #[.int .i64 v,.int .i64 kind,.slice A n c] w fun e w'=>e= .returned (.string (Hq v kind l))/\Below w.heap.size w w':=by
 have H:=aa h;clear h
 by_cases h4:v=4
 ·have HX:Hid (Hq v kind l=⟨#[]⟩):=aa (if_pos h4);have e4:(v==4)=true:=aK.2 h4;clear h4;go_enter func252,ntmps252;go_wp2;go_ret;exact⟨by rw[HX.o];rfl,aq _ _⟩
 ·have HX:Hid (Hq v kind l=⟨(aM kind l).1.toArray⟩):=aa (ae h4);have e4:(v==4)=false:=ar.2 h4;have HN:=aa hn;have HG:=aa hg
  clear h4 hn hg;go_enter func252,ntmps252
  go_wp2_with fail
  refine(KI kind l n HN.o HG.o A c _ H.o hl hc).mono ?_;rintro e w1 ⟨rfl,hb⟩;have HB:=aa hb;clear hb
  go_wp2;go_ret;exact⟨by rw[HX.o];rfl,HB.o⟩
def GI(v kind:Int)(l:List Pr):Int:=if v=4 then(if 0<l.length then 2 else 0)else(aM kind l).2
theorem Gx(v kind:Int)(l:List Pr)(n:Nat)(hn:l.length=n)(hg:∀p∈l,ea p)(A:Option Addr)(c:Nat)(w:World)(h:Rd w w.heap.size 4 A n (prs l))(hl:n<=4611686018427387904)(hc:n<=c):
  Calls prog 242 #[.int .i64 v,.int .i64 kind,.slice A n c] w fun e w'=>e= .returned (.int .i64 (GI v kind l))/\Below w.heap.size w w':=by
 have H:=aa h;clear h
 have HN:=aa hn;have HG:=aa hg
 by_cases h4:v=4
 ·have e4:(v==4)=true:=aK.2 h4
  by_cases h0:0<n
  ·have HX:Hid (GI v kind l=2):=aa (by unfold GI;rw[if_pos h4,if_pos (by omega)]);have d0:decide ((0:Int)<(n:Int))=true:=au (by omega);have d1:decide (0<n)=true:=au h0;clear h4 h0 hn hg;go_enter func242,ntmps242;go_wp2;go_ret;exact⟨by rw[HX.o];rfl,aq _ _⟩
  ·have HX:Hid (GI v kind l=0):=aa (by unfold GI;rw[if_pos h4,ae (by omega)]);have d0:decide ((0:Int)<(n:Int))=false:=ah (by omega);have d1:decide (0<n)=false:=ah h0;clear h4 h0 hn hg;go_enter func242,ntmps242;go_wp2;go_ret;exact⟨by rw[HX.o];rfl,aq _ _⟩
 ·have HX:Hid (GI v kind l=(aM kind l).2):=aa (ae h4);have e4:(v==4)=false:=ar.2 h4;clear h4 hn hg;go_enter func242,ntmps242
  go_wp2_with fail
  refine(Hv kind l n HN.o HG.o A c _ H.o hl hc).mono ?_;rintro e w1 ⟨rfl,hb⟩;have HB:=aa hb;clear hb
  go_wp2;go_ret;exact⟨by rw[HX.o];rfl,HB.o⟩
theorem Io(t:ByteArray)(a:Nat)(e:Int):∀(i:Nat) (n:Int),(Am t a e)[i]? ≠some (Value.int IntKind.u32 n):=gw t a e
section
attribute [local go_sem ↓] bD bF bH bI bu
attribute [local go_sem] bc aD bh bg bK bJ bd aY be aO ax cI dC dB dt dj di dA dr dp dn bW co bO bZ bX cz cy cw cu ct cC cn bS bP bR
theorem Im(W:World)(t:TypeId)(a b:Array Value):Bk ((W.alloc (.cells a t)).alloc (.cells b t)).drew W.heap.size t a/\Bk ((W.alloc (.cells a t)).alloc (.cells b t)).drew (W.heap.size+1) t b/\Below W.heap.size W ((W.alloc (.cells a t)).alloc (.cells b t)).drew:=by
 refine⟨((Bk.fresh W t a).alloc _).drewN 1,?_,aV (((aq _ _).alloc (ac _) _).alloc (by simp) _) 1⟩;have h:=(Bk.fresh (W.alloc (.cells a t)) t b).drewN 1;rw[bi]at h;exact h
theorem Ha{w:World}{g:Nat}{x:Wl}{h:Hd}(b:Bk w g WlT (wlC x h)):w.cell? ⟨g,0,none⟩=some (.string x.topic)/\w.cell? ⟨g,1,none⟩=some (.string x.payload)/\w.cell? ⟨g,2,none⟩=some (.int .i64 x.qos)/\w.cell? ⟨g,3,none⟩=some (.bool x.retain)/\w.cell? ⟨g,4,none⟩=some (.slice h.a x.props.length h.c):=
 ⟨b.cell 0,b.cell 1,b.cell 2,b.cell 3,b.cell 4⟩
theorem GP(p q:Pk)(h k:Hs)(w:World)(ip:PkIn w w.heap.size p h)(iq:PkIn w w.heap.size q k)(lp:gz p)(lq:gz q):
  Calls prog 243 #[pkV p h,pkV q k] w fun e w'=>e= .returned (.bool (decide (p=q)))/\Below w.heap.size w w':=by
 have hb2:=ic w (.cells (pkC p h) PkT) (.cells (pkC q k) PkT);have B1:Bk ((w.alloc (.cells (pkC p h) PkT)).alloc (.cells (pkC q k) PkT)) w.heap.size PkT (pkC p h):=(Bk.fresh w PkT (pkC p h)).alloc _;have B2:Bk ((w.alloc (.cells (pkC p h) PkT)).alloc (.cells (pkC q k) PkT)) (w.heap.size+1) PkT (pkC q k):=by
  simpa using Bk.fresh (w.alloc (.cells (pkC p h) PkT)) PkT (pkC q k)
 have HP:=aa (And.intro ip (And.intro iq (And.intro lp lq)));have HB:=aa hb2;have H1:=aa B1;have H2:=aa B2
 have HQ:=aa (nQ p q);clear ip iq lp lq hb2;have k1:=fun i=>B1.cell i;have k2:=fun i=>B2.cell i;clear B1 B2;go_enter func243,ntmps243
 go_wp2_with fail
 obtain⟨W,hW⟩:∃W,((w.alloc (.cells (pkC p h) PkT)).alloc (.cells (pkC q k) PkT))=W:=⟨_,rfl⟩;have hWs:W.heap.size=w.heap.size+2:=by rw[<-hW];simp
 rw[hW]at k1 k2 HB H1 H2⊢;have HWS:=aa hWs;have l1:w.heap.size<W.heap.size:=by omega
 have l2:w.heap.size+1<W.heap.size:=by omega
 clear hW hWs
 go_cut [5,6] (fun v5 v6 x=>∃g5 g6,v5= .pointer (some ⟨g5,0,none⟩)/\v6= .pointer (some ⟨g6,0,none⟩)/\Bk x g5 WlT (wlC p.will h.wp)/\Bk x g6 WlT (wlC q.will k.wp)/\Below W.heap.size W x)
 case first=>
  have j1:=k1 15;have j2:=k1 16;have j3:=k1 17;have j4:=k1 18;have j5:=k1 19
  have m1:=k2 15;have m2:=k2 16;have m3:=k2 17;have m4:=k2 18;have m5:=k2 19
  rw[cz]at j1 m1;rw[cy]at j2 m2;rw[cw]at j3 m3;rw[cu]at j4 m4;rw[ct]at j5 m5;clear k1 k2
  go_region_law (fail)
  all_goals
   go_wp2
   go_meet
   case rel=>first| exact⟨_,_,rfl,rfl,(Im W _ _ _).1,(Im W _ _ _).2.1,(Im W _ _ _).2.2⟩ | exact⟨_,_,rfl,rfl,(Im W _ _ _).2.1,(Im W _ _ _).1,(Im W _ _ _).2.2⟩
 case rest=>
  obtain⟨g5,g6,rfl,rfl,b5,b6,hbx⟩:=hcut;have HX:=aa hbx;have H1x:=aa (H1.o.below hbx l1);have H2x:=aa (H2.o.below hbx l2)
  have HBX:=aa (HB.o.trans (hbx.mono HB.o.size));clear k1 k2 hbx l1 l2;have k1:=fun i=>H1x.o.cell i;have k2:=fun i=>H2x.o.cell i;have C0:=aa (JE h.wp.a k.wp.a p.will.props.length q.will.props.length h.wp.c k.wp.c p.will.props q.will.props _ rfl rfl (HP.o.1.next HBX.o).wp (HP.o.2.1.next HBX.o).wp HP.o.2.2.1.1 HP.o.2.2.2.1);have D5:=aa b5;have D6:=aa b6
  clear b5 b6
  by_cases dtopic:p.will.topic=q.will.topic
  rotate_left
  ·have HF:Hid (decide (p=q)=false):=aa (ah (fun x=>dtopic (by rw[x])));have x1:¬(p.will.topic.toList=q.will.topic.toList):=fun x=>dtopic ((toList_inj _ _).1 x);have x2:(p.will.topic.toList==q.will.topic.toList)=false:=ar.2 x1;have x3:(p.will.topic.toList !=q.will.topic.toList)=true:=aA.2 x1;obtain⟨n0,n1,n2,n3,n4⟩:=Ha D5.o;obtain⟨o0,o1,o2,o3,o4⟩:=Ha D6.o;clear dtopic;go_wp2;go_ret;exact⟨by rw[HF.o];rfl,HBX.o⟩
  by_cases dpayload:p.will.payload=q.will.payload
  rotate_left
  ·have HF:Hid (decide (p=q)=false):=aa (ah (fun x=>dpayload (by rw[x])));have x1:¬(p.will.payload.toList=q.will.payload.toList):=fun x=>dpayload ((toList_inj _ _).1 x);have x2:(p.will.payload.toList==q.will.payload.toList)=false:=ar.2 x1;have x3:(p.will.payload.toList !=q.will.payload.toList)=true:=aA.2 x1;obtain⟨n0,n1,n2,n3,n4⟩:=Ha D5.o;obtain⟨o0,o1,o2,o3,o4⟩:=Ha D6.o;rw[<-dtopic]at o0;clear dpayload dtopic;go_wp2;go_ret;exact⟨by rw[HF.o];rfl,HBX.o⟩
  by_cases dqos:p.will.qos=q.will.qos
  rotate_left
  ·have HF:Hid (decide (p=q)=false):=aa (ah (fun x=>dqos (by rw[x])));have x2:(p.will.qos==q.will.qos)=false:=ar.2 dqos;have x3:(p.will.qos !=q.will.qos)=true:=aA.2 dqos;obtain⟨n0,n1,n2,n3,n4⟩:=Ha D5.o;obtain⟨o0,o1,o2,o3,o4⟩:=Ha D6.o;rw[<-dtopic]at o0;rw[<-dpayload]at o1;clear dqos dtopic dpayload;go_wp2;go_ret;exact⟨by rw[HF.o];rfl,HBX.o⟩
  by_cases dretain:p.will.retain=q.will.retain
  rotate_left
  ·have HF:Hid (decide (p=q)=false):=aa (ah (fun x=>dretain (by rw[x])));have x2:(p.will.retain==q.will.retain)=false:=ar.2 dretain;have x3:(p.will.retain !=q.will.retain)=true:=aA.2 dretain;obtain⟨n0,n1,n2,n3,n4⟩:=Ha D5.o;obtain⟨o0,o1,o2,o3,o4⟩:=Ha D6.o;rw[<-dtopic]at o0;rw[<-dpayload]at o1;rw[<-dqos]at o2;clear dretain dtopic dpayload dqos;go_wp2;go_ret;exact⟨by rw[HF.o];rfl,HBX.o⟩
  by_cases dprops:p.will.props=q.will.props
  rotate_left
  ·have HF:Hid (decide (p=q)=false):=aa (ah (fun x=>dprops (by rw[x])));have DP:=aa (ah dprops);obtain⟨n0,n1,n2,n3,n4⟩:=Ha D5.o;obtain⟨o0,o1,o2,o3,o4⟩:=Ha D6.o;rw[<-dtopic]at o0;rw[<-dpayload]at o1;rw[<-dqos]at o2;rw[<-dretain]at o3;clear dprops dtopic dpayload dqos dretain
   go_wp2_with fail
   refine C0.o.mono ?_;rintro e w3 ⟨rfl,hb⟩;rw[DP.o];have HB3:=aa (HBX.o.trans (hb.mono HBX.o.size));clear hb
   go_wp2;go_ret;exact⟨by rw[HF.o];rfl,HB3.o⟩
  have DP:=aa (au dprops);have DW:Hid (p.will=q.will):=aa (nC _ _ |>.2 ⟨dtopic,dpayload,dqos,dretain,dprops⟩);obtain⟨n0,n1,n2,n3,n4⟩:=Ha D5.o;obtain⟨o0,o1,o2,o3,o4⟩:=Ha D6.o;rw[<-dtopic]at o0;rw[<-dpayload]at o1;rw[<-dqos]at o2;rw[<-dretain]at o3;clear dprops dtopic dpayload dqos dretain
  go_wp2_with fail
  refine C0.o.mono ?_;rintro e w3 ⟨rfl,hb⟩;rw[DP.o];have HB3:=aa (HBX.o.trans (hb.mono HBX.o.size));have H13:=aa (H1x.o.below hb H1x.o.lt);have H23:=aa (H2x.o.below hb H2x.o.lt)
  clear hb k1 k2 n0 n1 n2 n3 n4 o0 o1 o2 o3 o4;have k1:=fun i=>H13.o.cell i;have k2:=fun i=>H23.o.cell i
  go_wp2_with (first
   | (go_at_call 316;refine(LM h.codes.a k.codes.a p.codes.length q.codes.length h.codes.c k.codes.c p.codes q.codes _ (HP.o.1.next HB3.o).codes (HP.o.2.1.next HB3.o).codes (aC HP.o.2.2.1.2.1 (by decide)) (aC HP.o.2.2.2.2.1 (by decide))).mono ?_;rintro e w4 ⟨rfl,hb4⟩;have HB4:=aa (HB3.o.trans (hb4.mono HB3.o.size));have H14:=aa (H13.o.below hb4 H13.o.lt);have H24:=aa (H23.o.below hb4 H23.o.lt);clear hb4 k1 k2;have k1:=fun i=>H14.o.cell i;have k2:=fun i=>H24.o.cell i)
   | (go_at_call 317;refine(JY h.filters.a k.filters.a p.filters.length q.filters.length h.filters.c k.filters.c p.filters q.filters _ rfl rfl (HP.o.1.next HB4.o).filters (HP.o.2.1.next HB4.o).filters HP.o.2.2.1.2.2.1 HP.o.2.2.2.2.2.1).mono ?_;rintro e w5 ⟨rfl,hb5⟩;have HB5:=aa (HB4.o.trans (hb5.mono HB4.o.size));have H15:=aa (H14.o.below hb5 H14.o.lt);have H25:=aa (H24.o.below hb5 H24.o.lt);clear hb5 k1 k2;have k1:=fun i=>H15.o.cell i;have k2:=fun i=>H25.o.cell i)
   | (go_at_call 315;refine(JE h.props.a k.props.a p.props.length q.props.length h.props.c k.props.c p.props q.props _ rfl rfl (HP.o.1.next HB5.o).props (HP.o.2.1.next HB5.o).props HP.o.2.2.1.2.2.2 HP.o.2.2.2.2.2.2).mono ?_;rintro e w6 ⟨rfl,hb6⟩;have HB6:=aa (HB5.o.trans (hb6.mono HB5.o.size));clear hb6))
  all_goals
   go_ret;refine⟨eT ?_,by first| exact HB6.o| exact HB5.o| exact HB4.o| exact HB3.o⟩;have DW:=DW.o;have HQ:=HQ.o
   clear HB HB3 k1 k2
   by_cases hpq:p=q
   ·subst hpq
    simp_all
   ·rw[ah hpq]
    first| done| (rw[HQ]at hpq;clear HQ;simp_all[toList_inj])
theorem JX(k f:Int)(w:World):Calls prog 191 #[.int .i64 k,.int .i64 f] w fun e w'=>e= .returned (.bool (eu k f))/\w=w':=by
 by_cases h3:k=3
 ·subst h3;rw[show eu 3 f=gd f from if_pos rfl];exact KG f w
 have q3:(k==3)=false:=ar.2 h3;have HX0:Hid (eu k f=decide (f=gg k)):=aa (ae h3);clear h3
 by_cases h2:k=6\/k=8\/k=10
 ·have HF:Hid (gg k=2):=aa (if_pos h2);have HQ:Hid (eu k f=(f==2)):=aa (by rw[HX0.o,HF.o];by_cases e:f=2<;>simp[e]);clear HF HX0;obtain⟨b,hb⟩:∃b,(f==2)=b:=⟨_,rfl⟩;rw[hb]at HQ;rcases h2 with rfl| rfl| rfl
  all_goals
   clear q3;go_enter func191,ntmps191;go_wp2;go_ret;exact⟨by rw[HQ.o];rfl,rfl⟩
 ·have HF:Hid (gg k=0):=aa (ae h2);have HQ:Hid (eu k f=(f==0)):=aa (by rw[HX0.o,HF.o];by_cases e:f=0<;>simp[e]);have q6:(k==6)=false:=ar.2 (by omega);have q8:(k==8)=false:=ar.2 (by omega);have q10:(k==10)=false:=ar.2 (by omega);clear HF HX0 h2;obtain⟨b,hb⟩:∃b,(f==0)=b:=⟨_,rfl⟩;rw[hb]at HQ;go_enter func191,ntmps191;go_wp2;go_ret;exact⟨by rw[HQ.o];rfl,rfl⟩
theorem Lr(v k f:Int)(n:Nat)(w:World)(hn:n<=268435455):Calls prog 133 #[.int .i64 v,Cx ⟨k,f,n⟩] w fun e w'=>e= .returned (.int .i64 (ff v k f))/\Below w.heap.size w w':=by
 have HE:Hid (ff v k f=if ba v=false then 2 else if dS v k=false then 8 else if eu k f=false then 7 else 0):=aa rfl;have HB:=aa ((aq w.heap.size w).alloc (ac _) (.cells #[.int .i64 k,.int .i64 f,.int .i64 n] 112));have HN:=aa hn;clear hn;show Calls _ _ #[.int .i64 v,.agg #[.int .i64 k,.int .i64 f,.int .i64 n]] _ _;go_enter func133,ntmps133
 go_wp2_with fail
 refine(pS v _).mono ?_;rintro e w1 ⟨rfl,rfl⟩;cases hk:ba v
 ·have HX:Hid (ff v k f=2):=aa (by rw[HE.o,if_pos hk]);clear hk;go_wp2;go_ret;exact⟨by rw[HX.o];rfl,HB.o⟩
 have HE1:Hid (ff v k f=if dS v k=false then 8 else if eu k f=false then 7 else 0):=aa (by rw[HE.o,ae (fun x=>by rw[hk]at x;cases x)]);clear hk HE;have k1:(w.alloc (.cells #[.int .i64 k,.int .i64 f,.int .i64 n] 112)).cell? ⟨w.heap.size,0,none⟩=some (.int .i64 k):=(Bk.fresh w 112 _).cell 0;have k2:(w.alloc (.cells #[.int .i64 k,.int .i64 f,.int .i64 n] 112)).cell? ⟨w.heap.size,1,none⟩=some (.int .i64 f):=(Bk.fresh w 112 _).cell 1;have k3:(w.alloc (.cells #[.int .i64 k,.int .i64 f,.int .i64 n] 112)).cell? ⟨w.heap.size,2,none⟩=some (.int .i64 n):=(Bk.fresh w 112 _).cell 2
 go_wp2_with fail
 refine(JO v k _).mono ?_;rintro e w1 ⟨rfl,rfl⟩;cases hk:dS v k
 ·have HX:Hid (ff v k f=8):=aa (by rw[HE1.o,if_pos hk]);clear hk;go_wp2;go_ret;exact⟨by rw[HX.o];rfl,HB.o⟩
 have HE2:Hid (ff v k f=if eu k f=false then 7 else 0):=aa (by rw[HE1.o,ae (fun x=>by rw[hk]at x;cases x)]);clear hk HE1
 go_wp2_with fail
 refine(JX k f _).mono ?_;rintro e w1 ⟨rfl,rfl⟩;cases hk:eu k f
 ·have HX:Hid (ff v k f=7):=aa (by rw[HE2.o,if_pos hk]);clear hk;go_wp2;go_ret;exact⟨by rw[HX.o];rfl,HB.o⟩
 have HX:Hid (ff v k f=0):=aa (by rw[HE2.o,ae (fun x=>by rw[hk]at x;cases x)]);have d1:decide ((n:Int)<0)=false:=ah (by omega);have d2:decide ((268435455:Int)<(n:Int))=false:=ah (by have:=HN.o;omega);clear hk HE2;go_wp2;go_ret;exact⟨by rw[HX.o];rfl,HB.o⟩
theorem JW(v k f:Int)(n:Nat)(w:World)(hn:n<=268435455):Calls prog 87 #[.int .i64 v,Cx ⟨k,f,n⟩] w fun e w'=>e= .returned (.tuple #[.string ⟨(hdB v k f n).1.toArray⟩,.int .i64 (hdB v k f n).2])/\Below w.heap.size w w':=by
 have HB:=aa ((aq w.heap.size w).alloc (ac _) (.cells #[.int .i64 k,.int .i64 f,.int .i64 n] 112));have HK:=aa (Bk.fresh w 112 #[.int .i64 k,.int .i64 f,.int .i64 n]);have HN:=aa hn;have HCK:=aa (fun W=>Lr v k f n W hn);clear hn;show Calls _ _ #[.int .i64 v,.agg #[.int .i64 k,.int .i64 f,.int .i64 n]] _ _;simp only[Cx]at HCK;go_enter func87,ntmps87
 go_wp2_with fail
 refine(HCK.o _).mono ?_;rintro e w1 ⟨rfl,hb⟩;have HB1:=aa (HB.o.trans (hb.mono HB.o.size));have HK1:=aa (HK.o.below hb HK.o.lt);clear hb HB HK HCK
 by_cases h0:ff v k f=0
 rotate_left
 ·have HX:Hid (hdB v k f n=([],ff v k f)):=aa (ae h0);generalize ff v k f=x at*;have e0:(x !=0)=true:=aA.2 h0;clear h0;go_wp2;go_ret2;exact⟨by rw[HX.o];rfl,HB1.o⟩
 have HX:Hid (hdB v k f n=(hdS k f n,0)):=aa (if_pos h0);obtain⟨h1,h2,h3⟩:=nf.1 h0;have r1:=vk h2;have r2:=rm h3;rw[h0];clear h0 h1 h2 h3;obtain⟨kn,rfl⟩:∃kn:Nat,k=kn:=⟨k.toNat,by omega⟩;obtain⟨fn,rfl⟩:∃fn:Nat,f=fn:=⟨f.toNat,by omega⟩;have c0:=HK1.o.cell 0;have c1:=HK1.o.cell 1;have c2:=HK1.o.cell 2
 simp only[ay,aE,aB]at c0 c1 c2
 go_wp2_with fail
 refine(IB n _ HN.o).mono ?_;rintro e w2 ⟨rfl,hb⟩;have HB2:=aa (HB1.o.trans (hb.mono HB1.o.size));have HK2:=aa (HK1.o.below hb HK1.o.lt);clear hb c0 c1 c2;have c0:=HK2.o.cell 0;have c1:=HK2.o.cell 1
 simp only[ay,aE,aB]at c0 c1;have HPT:Hid (∀W,Calls prog 135 #[.int .u64 (16*(kn:Int)+(fn:Int)),.int .i64 1] W fun e w'=>e= .returned (.string ⟨(da (16*kn+fn) 1).toArray⟩)/\Below W.heap.size W w'):=aa (fun W=>by
  rw[show 16*(kn:Int)+(fn:Int)=((16*kn+fn:Nat):Int) by omega];exact GV (16*kn+fn) 1 W (by omega) (by decide) (by decide))
 have HS:Hid (hdS (kn:Int) (fn:Int) n=da (16*kn+fn) 1++eP n):=aa (by
  unfold hdS;rw[show(16*(kn:Int)+(fn:Int)).toNat=16*kn+fn by omega])
 obtain⟨m,hm⟩:∃m,16*kn+fn=m:=⟨_,rfl⟩;rw[hm]at HPT HS;clear hm
 go_wp2_with fail
 refine(HPT.o _).mono ?_;rintro e w3 ⟨rfl,hb⟩;have HB3:=aa (HB2.o.trans (hb.mono HB2.o.size));have hsm:¬(9223372036854775807<(da m 1).length+(eP n).length):=by
  rw[fM];have:(eP n).length<=4:=mO 3 n;omega
 clear hb c0 c1 HPT;go_wp2;go_ret2;exact⟨by rw[HX.o,HS.o];rfl,HB3.o⟩
end
end Go.Proofs.YtbdgkkmbnahgiaaGreatDoor
