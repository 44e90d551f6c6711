/- A part of what the laws stand on: MRfB. -/
import Derived.Test.YtbdgkkmbnahgiaaGreatDoorMfG0MRfA
import Derived.Deep.RegionLaw
set_option maxRecDepth 10000
set_option maxHeartbeats 8000000
namespace Go.Proofs.YtbdgkkmbnahgiaaGreatDoor
open Go.RowKit Go.Proofs.Tryz
theorem Lg{P:Program}(src dst e:TypeId)(hs:P.underlying src=some (.slice e))(he:P.underlying e=some (.int .u8))(hd:P.underlying dst=some .string)(W:World)(a:UInt8):
  (convert src dst (.slice (some ⟨W.heap.size,0,none⟩) 1 1)).run P (W.alloc (.cells #[.int .u8 (a.toNat:Int)] e))= .ok (.string ⟨#[a]⟩) (W.alloc (.cells #[.int .u8 (a.toNat:Int)] e)):=by
 have h:=Rd.lit W #[.int .u8 (a.toNat:Int)] e (xs:=bys [a]) rfl (ed _) rfl;exact ni src dst e hs he hd 1 h
theorem NG{P:Program}(src dst e:TypeId)(hs:P.underlying src=some (.slice e))(he:P.underlying e=some (.int .u8))(hd:P.underlying dst=some .string)(W:World)(a:UInt8):
  (convert src dst (.slice (some ⟨W.heap.size,0,none⟩) 1 1)).run P (W.alloc (.cells #[.int .u8 (a.toNat:Int)] e)).drew= .ok (.string ⟨#[a]⟩) (W.alloc (.cells #[.int .u8 (a.toNat:Int)] e)).drew:=by
 have h:=(Rd.lit W #[.int .u8 (a.toNat:Int)] e (xs:=bys [a]) rfl (ed _) rfl).drewN 1;exact ni src dst e hs he hd 1 h
theorem OJ{P:Program}(src dst e:TypeId)(hs:P.underlying src=some (.slice e))(he:P.underlying e=some (.int .u8))(hd:P.underlying dst=some .string){W z:World}{a:UInt8}
  (hb:Below (W.alloc (.cells #[.int .u8 (a.toNat:Int)] e)).drew.heap.size (W.alloc (.cells #[.int .u8 (a.toNat:Int)] e)).drew z):
  (convert src dst (.slice (some ⟨W.heap.size,0,none⟩) 1 1)).run P z= .ok (.string ⟨#[a]⟩) z:=by
 have h:=((Rd.lit W #[.int .u8 (a.toNat:Int)] e (xs:=bys [a]) rfl (ed _) rfl).drewN 1).below (hb.mono (by simp[World.drew]));exact ni src dst e hs he hd 1 h
theorem PB.b0{w x z:World}(h:Below w.heap.size w x)(hb:Below x.drew.heap.size x.drew z):Below w.heap.size w z:=(aV h 1).trans (hb.mono (aV h 1).size)
theorem PB.b1{w x z:World}{ob:Obj}(h:Below w.heap.size w x)(hb:Below (x.alloc ob).drew.heap.size (x.alloc ob).drew z):Below w.heap.size w z:=PB.b0 (h.alloc h.size ob) hb
theorem PO{id:Int}(h:0<=id/\id<64):id=((UInt8.ofNat id.toNat).toNat:Int):=by
 rw[UInt8.toNat_ofNat'];omega
abbrev PB(w:World)(b o:Nat)(p:Pr)(x:World):Prop:=Below w.heap.size w x/\x.cell? ⟨b,o,none⟩=some (.int .i64 p.id)/\x.cell? ⟨b,o+1,none⟩=some (.int .u32 p.n)/\x.cell? ⟨b,o+2,none⟩=some (.string p.text)/\x.cell? ⟨b,o+3,none⟩=some (.string p.value)
theorem PB.of{w x:World}{b o n k:Nat}{l:List Pr}{p:Pr}(h:Rd w w.heap.size 4 (some ⟨b,o,none⟩) n (prs l))(hn:l.length=n)(hp:l[k]? =some p)(hx:Below w.heap.size w x):PB w b (o+k*4) p x:=by
 subst hn;obtain⟨hk,rfl⟩:=cR.1 hp;obtain⟨b',o',he,-,c0,c1,c2,c3⟩:=(h.below hx).atP hk;cases he;exact⟨hx,c0,c1,c2,c3⟩
theorem JP(kind:Int)(l:List Pr)(n:Nat)(hn:l.length=n)(hck:ckL kind l)(hg:∀p∈l,ea p)(hm:n<=1000)(A:Option Addr)(c:Nat)(w:World)(h:Rd w w.heap.size 4 A n (prs l)):
  Calls prog 364 #[.slice A n c] w fun e w'=>e= .returned (.string ⟨(l.flatMap jI).toArray⟩)/\Below w.heap.size w w':=by
 have H:=aa h;have HN:=aa hn;have HC:=aa hck;have HG:=aa hg
 clear h hn hck hg;have hcv:=Lg (P:=prog) 80 9 5 underlying80 underlying5 underlying9;have hcv1:=NG (P:=prog) 80 9 5 underlying80 underlying5 underlying9;go_enter func364,ntmps364;go_wp2
 go_loopw [3,4] (fun s i wr=>∃k:Nat,k<=n/\i= .int .i64 k/\s= .string ⟨((l.take k).flatMap jI).toArray⟩/\Below w.heap.size w wr) (fun _ i _=>n- (intOf i).toNat)
 case atStart=>exact⟨0,by omega,rfl,rfl,aq _ _⟩
 case round=>
  obtain⟨k,hk,rfl,rfl,hbel⟩:=hrel;have HB:=aa hbel;clear hbel
  by_cases hlt:k<n
  ·have hlt':k<l.length:=by rw[HN.o];exact hlt
   have hnn:=HN.o;obtain⟨b,o,hA,-,-,-,-,-⟩:=Rd.atP (A:=A) (show Rd w w.heap.size 4 A l.length (prs l) by rw[HN.o];exact H.o) hlt';subst hA;have HPk:Hid (l[k]? =some l[k]):=aa (List.getElem?_eq_getElem hlt');have hmem:l[k]∈l:=iY hlt';have hok:=nr (HC.o _ hmem);have hpg:=HG.o _ hmem;have hpl:=zC (HC.o _ hmem);have htk:(l.take (k+1)).flatMap jI=(l.take k).flatMap jI++jI l[k]:=by
    rw[fE hlt',fR];simp
   have htl:((l.take k).flatMap jI).length<=k*131075:=by
    have:=Jw (l:=l.take k) (fun p hp=>HC.o p (IU hp));exact aC this (iH _ (List.length_take_le _ _))
   clear hmem hnn;have HTK:=aa htk;clear htk
   generalize l[k]=p at*;obtain⟨id,m,t,v⟩:=p;simp only at hok hpg hpl HPk HTK;obtain⟨c8,rfl⟩:∃c8:UInt8,id=(c8.toNat:Int):=⟨UInt8.ofNat id.toNat,PO hok.1⟩;obtain⟨sh,hsh⟩:∃sh,gH (c8.toNat:Int)=sh:=⟨_,rfl⟩;rw[hsh]at hok;obtain⟨VV,hVV⟩:∃VV,kc sh ⟨(c8.toNat:Int),m,t,v⟩=VV:=⟨_,rfl⟩;have hpe:jI ⟨(c8.toNat:Int),m,t,v⟩=c8 :: ls VV:=by
    unfold jI;simp only;rw[hsh,hVV,dN];simp
   rw[hpe]at hpl HTK;have HSH:=aa hsh;have HVV:=aa hVV;have HOK:=aa hok;have HPG:=aa hpg
   clear hsh hVV hok hpg hpe;have hvl:VV.size<=131074:=by rw[bM,aN]at hpl;omega
   clear hpl;obtain⟨S,hS⟩:∃S:ByteArray,⟨((l.take k).flatMap jI).toArray⟩=S:=⟨_,rfl⟩;have hSz:S.size<=131075000:=by rw[<-hS,GW];omega
   have HS2:Hid ((⟨((l.take (k+1)).flatMap jI).toArray⟩:ByteArray)=S++⟨#[c8]⟩++VV):=aa (by
    rw[HTK.o,<-hS];refine eX ?_;rw[jo,fe,fe,jo];simp[ls])
   rw[hS];clear hS htl;have hw8:IntKind.u8.wrap (c8.toNat:Int)=(c8.toNat:Int):=by rw[GM];have:=c8.toNat_lt;omega
   have b1:(0:Int)<=(k:Int):=by omega
   have b2:(k:Int)<(n:Int):=by omega
   have hs1:¬(9223372036854775807<S.size+1):=by omega
   have hs2:¬(9223372036854775807<S.size+1+VV.size):=by omega
   obtain⟨-,c0,c1,c2,c3⟩:=PB.of H.o HN.o HPk.o HB.o;simp only at c0 c1 c2 c3;obtain⟨-,g0,g1,g2,g3⟩:=PB.of H.o HN.o HPk.o (HB.o.alloc HB.o.size (.cells #[.int .u8 (c8.toNat:Int)] 5));simp only at g0 g1 g2 g3;have hcv8:=fun W=>hcv W c8;have hcv9:=fun W=>hcv1 W c8;have HLT:=aa hlt;have HK:=aa hk
   clear hcv hcv1 hlt' hvl hSz hk hlt
   go_wp2_with fail
   go_region_law ((go_simp;go_at_call 380;refine(Ln sh ⟨(c8.toNat:Int),m,t,v⟩ HSH.o HOK.o.2.1 HOK.o.2.2.1 HPG.o.1 HOK.o.2.2.2.1 HOK.o.2.2.2.2.1 HOK.o.2.2.2.2.2 _).mono ?_;rintro e w4 ⟨rfl,hbv⟩;rw[HVV.o];have hb4:Below w.heap.size w w4:=(by first| exact PB.b0 HB.o hbv| exact PB.b1 HB.o hbv| exact PB.b2 HB.o hbv);obtain⟨-,e0,e1,e2,e3⟩:=PB.of H.o HN.o HPk.o hb4;simp only at e0 e1 e2 e3;try (have hcz:=OJ 80 9 5 underlying80 underlying5 underlying9 hbv)))
   all_goals
    go_wp2
    go_roundw
    case rel=>exact⟨k+1,HLT.o,by go_num,by rw[HS2.o],by first| exact hb4| exact hb4.alloc hb4.size _⟩
    case measure=>have:=HLT.o;simp[intOf];omega
  ·obtain rfl:k=n:=by omega
   have HT:Hid (l.take k=l):=aa (bt (by rw[HN.o];exact ac _));rw[HT.o];go_wp2;go_ret;exact⟨rfl,HB.o⟩
theorem Ox(kind:Int):∀(l:List Pr) (f:Nat->Nat) (o o':List UInt8),(eO kind l f o).2=(eO kind l f o').2
 | [],f,o,o'=>by rw[eO,eO];split<;>rfl
 | p :: l,f,o,o'=>by
   rw[eO,eO];split
   ·rfl
   ·split
    ·rfl
    ·exact Ox kind l _ _ _
def Jx(l:List Pr):Nat->Nat:=fun j=>cnt j l
theorem Lh(l:List Pr)(p:Pr):upd (Jx l) p.id.toNat (Jx l p.id.toNat+1)=Jx (l++[p]):=by
 funext j
 unfold upd Jx;rw[ME,lJ]
 by_cases h:j=p.id.toNat
 ·subst h;simp[cnt]
 ·rw[ae h,ae (fun x=>h x.symm)];simp[cnt]
theorem OA{kind:Int}{l:List Pr}{p:Pr}(hl:ckL kind l)(hp:0<=p.id):(nh l p.id).isSome=decide (1<=cnt p.id.toNat l):=by
 rw[eG,Fx];unfold nh;rw[List.find?_isSome]
 constructor
 ·rintro ⟨q,hq,he⟩;exact EX.2 ⟨q,hq,by rw[show q.id=p.id by simpa using he]⟩
 ·intro h;obtain⟨q,hq,he⟩:=EX.1 h;have:=(nr (hl q hq)).1.1;exact⟨q,hq,by simp;omega⟩
theorem Jy{kind:Int}{l:List Pr}{p:Pr}(hl:ckL kind l)(hp:de (cr p.id) kind p=0):twB kind l p.id=iC (Jx l) kind p.id.toNat:=by
 unfold twB;rw[OA hl (nr hp).1.1,KN hp];unfold iC Jx
 congr 1
 exact eb.2 (by omega)
theorem LV(l:List Pr):Kn l=jp (Jx l):=by
 have h:∀k:Nat,0<k->(nh l (k:Int)).isSome=decide (0<cnt k l):=by
  intro k hk;rw[eG,Fx];unfold nh;rw[List.find?_isSome]
  constructor
  ·rintro ⟨q,hq,he⟩;have:q.id=(k:Int):=by simpa using he
   exact EX.2 ⟨q,hq,by omega⟩
  ·intro h;obtain⟨q,hq,he⟩:=EX.1 h;exact⟨q,hq,by simp;omega⟩
 unfold Kn jp Jx;rw[show(22:Int)=((22:Nat):Int)from rfl,show(21:Int)=((21:Nat):Int)from rfl,h 22 (by omega),h 21 (by omega)]
 congr 1
 by_cases h0:cnt 21 l=0
 ·simp[h0]
 ·have:0<cnt 21 l:=by omega
  simp[this,h0]
structure VAt (kind:Int) (l:List Pr) (k:Nat):Prop where
 ck:ckL kind (l.take k)
 eq:(aM kind l).2=(eO kind (l.drop k) (Jx (l.take k)) []).2
theorem VAt.start{kind:Int}{l:List Pr}(hl:l.length<=1000):VAt kind l 0:=by
 refine⟨by simp[ckL],?_⟩;unfold aM;rw[ae (by omega)];rfl
theorem VAt.bad{kind:Int}{l:List Pr}{k:Nat}{p:Pr}(v:VAt kind l k)(hp:l[k]? =some p)(hc:de (cr p.id) kind p≠0):(aM kind l).2=de (cr p.id) kind p:=by
 obtain⟨hk,rfl⟩:=cR.1 hp;rw[v.eq,bQ hk,eO,if_pos hc]
theorem VAt.twice{kind:Int}{l:List Pr}{k:Nat}{p:Pr}(v:VAt kind l k)(hp:l[k]? =some p)(hc:de (cr p.id) kind p=0)(ht:twB kind (l.take k) p.id=true):(aM kind l).2=9:=by
 rw[Jy v.ck hc]at ht;obtain⟨hk,rfl⟩:=cR.1 hp;rw[v.eq,bQ hk,eO,ae (by simpa using hc),if_pos ht]
theorem VAt.next{kind:Int}{l:List Pr}{k:Nat}{p:Pr}(v:VAt kind l k)(hp:l[k]? =some p)(hc:de (cr p.id) kind p=0)(ht:twB kind (l.take k) p.id=false):VAt kind l (k+1):=by
 rw[Jy v.ck hc]at ht;obtain⟨hk,rfl⟩:=cR.1 hp;have htk:l.take (k+1)=l.take k++[l[k]]:=fE hk;refine⟨?_,?_⟩
 ·rw[htk];refine Kv.2 ⟨v.ck,?_⟩;intro q hq;rw[gA.1 hq];exact hc
 ·rw[v.eq,bQ hk,eO,ae (by simpa using hc),ae (by rw[ht];simp),Lh,<-htk];exact Ox kind _ _ _ _
theorem VAt.done{kind:Int}{l:List Pr}(v:VAt kind l l.length):ckL kind l/\(aM kind l).2=if Kn l=true then 9 else 0:=by
 have h1:=v.ck;have h2:=v.eq;rw[GK]at h1 h2;refine⟨h1,?_⟩;rw[h2,ox,eO,LV];split<;>rfl
theorem Hv(kind:Int)(l:List Pr)(n:Nat)(hn:l.length=n)(hg:∀p∈l,ea p)(A:Option Addr)(c:Nat)(w:World)(h:Rd w w.heap.size 4 A n (prs l))(hl:n<=4611686018427387904)(hc:n<=c):
  Calls prog 314 #[.int .i64 kind,.slice A n c] w fun e w'=>e= .returned (.int .i64 (aM kind l).2)/\Below w.heap.size w w':=by
 by_cases hbig:1000<n
 ·have HX:Hid ((aM kind l).2=4):=aa (by unfold aM;rw[if_pos (by omega)]);have d1:decide ((1000:Int)<(n:Int))=true:=au (by omega);clear hbig;go_enter func314,ntmps314;go_wp2;go_ret;exact⟨by rw[HX.o];rfl,aq _ _⟩
 have d1:decide ((1000:Int)<(n:Int))=false:=ah (by omega);have hn1:n<=1000:=by omega
 have H:=aa h;have HN:=aa hn;have HG:=aa hg;have HC:=aa hc
 have V0:=aa (VAt.start (kind:=kind) (show l.length<=1000 by omega));clear h hn hg hc hbig hl;go_enter func314,ntmps314;go_wp2
 go_loopw [5] (fun i wr=>∃k:Nat,k<=n/\i= .int .i64 k/\VAt kind l k/\Below w.heap.size w wr) (fun i _=>n- (intOf i).toNat)
 case atStart=>exact⟨0,by omega,rfl,V0.o,aq _ _⟩
 case round=>
  obtain⟨k,hk,rfl,hv,hbel⟩:=hrel;have HB:=aa hbel;have HV:=aa hv;clear hbel hv
  by_cases hlt:k<n
  ·have hlt':k<l.length:=by rw[HN.o];exact hlt
   obtain⟨b,o,hA,-,-,-,-,-⟩:=Rd.atP (A:=A) (show Rd w w.heap.size 4 A l.length (prs l) by rw[HN.o];exact H.o) hlt';subst hA;have HPk:Hid (l[k]? =some l[k]):=aa (List.getElem?_eq_getElem hlt');have HPG:=aa (HG.o _ (iY hlt'));generalize l[k]=p at*;obtain⟨id,m,t,v⟩:=p;obtain⟨-,c0,c1,c2,c3⟩:=PB.of H.o HN.o HPk.o HB.o;simp only at c0 c1 c2 c3;have b1:(0:Int)<=(k:Int):=by omega
   have b2:(k:Int)<(n:Int):=by omega
   have HLT:=aa hlt;clear hlt' hk
   by_cases hck:de (cr id) kind ⟨id,m,t,v⟩=0
   rotate_left
   ·have HX:=aa (HV.o.bad HPk.o hck);generalize hE:de (cr id) kind ⟨id,m,t,v⟩=E at*;have HE:=aa hE;have e0:(E !=0)=true:=aA.2 hck;clear hck hE
    go_wp2_with fail
    refine(Jp kind ⟨id,m,t,v⟩ (rU HPG.o) _).mono ?_;rintro e w1 ⟨rfl,hb⟩;rw[HE.o];have HB1:=aa (HB.o.trans (hb.mono HB.o.size));clear hb
    go_wp2;go_ret;exact⟨by rw[HX.o];(try dsimp only);rfl,HB1.o⟩
   have HCK:=aa hck;clear hck
   go_wp2_with fail
   refine(Jp kind ⟨id,m,t,v⟩ (rU HPG.o) _).mono ?_;rintro e w1 ⟨rfl,hb⟩;rw[HCK.o];have HB1:=aa (HB.o.trans (hb.mono HB.o.size));clear hb c0 c1 c2 c3
   obtain⟨-,c0,c1,c2,c3⟩:=PB.of H.o HN.o HPk.o HB1.o;simp only at c0 c1 c2 c3;have S1:=fun W=>Bi (P:=prog) underlying23 M9 (some ⟨b,o,none⟩) n c k (by have:=HC.o;omega) W;have c0':=fun n'=>(show(w1.drewN n').cell? ⟨b,o+k*4,none⟩=some (.int .i64 id)from c0);have HTW:∀d os,Calls prog 346 #[.int .i64 kind,.slice (some ⟨b,o,none⟩) k c,.int .i64 id] (Sort.grow (redrawn w1 d) os) fun e w''=>e= .returned (.bool (twB kind (l.take k) id))/\∃p:Regrown,w''=Sort.grow (redrawn w1 p.d) p.os:=
    jw (fun x hx=>Lo kind id (l.take k) k (by rw[cY,HN.o];have:=HLT.o;omega) (some ⟨b,o,none⟩) c x
     (by
       have h1:=((H.o.below HB1.o).wider HB1.o.size).below hx;have h2:=(h1.wider hx.size).cut_to (k:=k) (by have:=HLT.o;omega);rw[Oh]at h2;exact h2) (by have:=HLT.o;omega))
   have k0:=cell_regrown c0;have HBQ:=aa (fun d os=>HB1.o.trans ((below_regrown w1 d os).mono HB1.o.size));cases htw:twB kind (l.take k) id
   ·have HVN:=aa (HV.o.next HPk.o HCK.o htw);rw[htw]at HTW;clear htw c0 c1 c2 c3 c0'
    go_wp2_with fail
    refine wp_region_quiet_below (by kernel_rfl) (by kernel_rfl) ?_
    repeat (go_big_quiet_step (first| with_reducible exact HTW _ _))
    refine kE ?_;intro _ hw';obtain⟨⟨dq,osq⟩,hw''⟩:=hw';subst hw'';have KF:=aa (HBQ.o dq osq);clear HTW k0 HBQ S1;generalize Sort.grow (redrawn _ dq) osq=wq at*;go_wp2
    go_roundw
    case rel=>exact⟨k+1,HLT.o,by go_num,HVN.o,KF.o⟩
    case measure=>have:=HLT.o;simp[intOf];omega
   ·have HX:=aa (HV.o.twice HPk.o HCK.o htw);rw[htw]at HTW;clear htw c0 c1 c2 c3 c0'
    go_wp2_with fail
    refine wp_region_quiet_below (by kernel_rfl) (by kernel_rfl) ?_
    repeat (go_big_quiet_step (first| with_reducible exact HTW _ _))
    refine kE ?_;intro _ hw';obtain⟨⟨dq,osq⟩,hw''⟩:=hw';subst hw'';have KF:=aa (HBQ.o dq osq);clear HTW k0 HBQ S1;generalize Sort.grow (redrawn _ dq) osq=wq at*;go_wp2;go_ret;exact⟨by rw[HX.o];rfl,KF.o⟩
  ·obtain rfl:k=n:=by omega
   have hd:=(show VAt kind l l.length by rw[HN.o];exact HV.o).done;have HCL:=aa hd.1;have HXX:=aa hd.2;have HR:=aa ((H.o.below HB.o).wider HB.o.size);clear hd;cases hlo:Kn l
   ·have HX:Hid ((aM kind l).2=0):=aa (by rw[HXX.o,hlo];rfl);have HLO:=aa hlo;clear hlo
    have hz:((⟨(l.flatMap jI).toArray⟩:ByteArray).size:Int)<=268435455:=by rw[GW];have:=(G6 kind l HX.o).1;omega
    have dz:decide ((268435455:Int)<((⟨(l.flatMap jI).toArray⟩:ByteArray).size:Int))=false:=ah (by omega)
    go_wp2_with fail
    refine(JN l k HN.o A c _ HR.o (by omega)).mono ?_;rintro e w1 ⟨rfl,hb⟩;rw[HLO.o];have HB1:=aa (HB.o.trans (hb.mono HB.o.size));have HR1:=aa ((HR.o.below hb).wider hb.size);clear hb
    go_wp2_with fail
    refine(JP kind l k HN.o HCL.o HG.o hn1 A c _ HR1.o).mono ?_;rintro e w2 ⟨rfl,hb⟩;have HB2:=aa (HB1.o.trans (hb.mono HB1.o.size));clear hb
    generalize (⟨(l.flatMap jI).toArray⟩:ByteArray)=Z at*;go_wp2;go_ret;exact⟨by rw[HX.o];rfl,HB2.o⟩
   ·have HX:Hid ((aM kind l).2=9):=aa (by rw[HXX.o,hlo];rfl);have HLO:=aa hlo;clear hlo
    go_wp2_with fail
    refine(JN l k HN.o A c _ HR.o (by omega)).mono ?_;rintro e w1 ⟨rfl,hb⟩;rw[HLO.o];have HB1:=aa (HB.o.trans (hb.mono HB.o.size));clear hb
    go_wp2;go_ret;exact⟨by rw[HX.o];rfl,HB1.o⟩
theorem KI(kind:Int)(l:List Pr)(n:Nat)(hn:l.length=n)(hg:∀p∈l,ea p)(A:Option Addr)(c:Nat)(w:World)(h:Rd w w.heap.size 4 A n (prs l))(hl:n<=4611686018427387904)(hc:n<=c):
  Calls prog 323 #[.int .i64 kind,.slice A n c] w fun e w'=>e= .returned (.tuple #[.string ⟨(aM kind l).1.toArray⟩,.int .i64 (aM kind l).2])/\Below w.heap.size w w':=by
 have H:=aa h;have HN:=aa hn;have HG:=aa hg;have HC:=aa hc
 clear h hn hg hc
 by_cases hE:(aM kind l).2=0
 rotate_left
 ·have hb:=Ix kind l hE;have HX:Hid (aM kind l=([],(aM kind l).2)):=aa (by rw[<-hb]);generalize (aM kind l).2=E at*;have HE:=aa hE;have e0:(E !=0)=true:=aA.2 hE;clear hE hb;go_enter func323,ntmps323
  go_wp2_with fail
  refine(Hv kind l n HN.o HG.o A c _ H.o hl HC.o).mono ?_;rintro e w1 ⟨rfl,hb⟩;rw[HX.o];have HB:=aa hb;clear hb
  simp only;go_wp2;go_ret2;exact⟨by rw[HX.o];rfl,HB.o⟩
 have HE:=aa hE;have hb:=tE kind l hE;have hs:=(G6 kind l hE).1;have hok:=(sx kind l).1 hE;have HCL:=aa hok.2.1;have HN1:Hid (n<=1000):=aa (by rw[<-HN.o];exact hok.1);have HB0:=aa hb;have HV:Hid ((eP (l.flatMap jI).length).length<=4):=aa (by rw[LG];split;omega;split;omega;split;omega;omega);obtain⟨Z,hZ⟩:∃Z:ByteArray,⟨(l.flatMap jI).toArray⟩=Z:=⟨_,rfl⟩;have hzs:Z.size<=131075000:=by rw[<-hZ,GW];exact hs
 have hzl:(l.flatMap jI).length=Z.size:=by rw[<-hZ,GW]
 have HZ:=aa hZ;have HX:Hid ((⟨(aM kind l).1.toArray⟩:ByteArray)=⟨(eP Z.size).toArray⟩++Z):=aa (by rw[hb,<-hzl,<-hZ];exact P7 _ _);rw[hzl]at HV;clear hE hb hs hok hZ hzl;obtain⟨V,hV⟩:∃V:ByteArray,⟨(eP Z.size).toArray⟩=V:=⟨_,rfl⟩;have HVS:Hid (V.size<=4):=aa (by rw[<-hV,GW];exact HV.o);have HVV:=aa hV;rw[hV]at HX;have hsum:¬(9223372036854775807<V.size+Z.size):=by have:=HVS.o;omega
 clear hV;go_enter func323,ntmps323
 go_wp2_with fail
 refine(Hv kind l n HN.o HG.o A c _ H.o hl HC.o).mono ?_;rintro e w1 ⟨rfl,hb⟩;rw[HE.o];have HB:=aa hb;have HR:=aa ((H.o.below hb).wider hb.size);clear hb
 go_wp2_with fail
 refine(JP kind l n HN.o HCL.o HG.o HN1.o A c _ HR.o).mono ?_;rintro e w2 ⟨rfl,hb⟩;rw[HZ.o];have HB1:=aa (HB.o.trans (hb.mono HB.o.size));clear hb
 go_wp2_with fail
 refine(IB Z.size _ (by omega)).mono ?_;rintro e w3 ⟨rfl,hb⟩;rw[HVV.o];have HB2:=aa (HB1.o.trans (hb.mono HB1.o.size));clear hb
 go_wp2;go_ret2;exact⟨by rw[HX.o,HE.o];rfl,HB2.o⟩
section
attribute [local go_sem] Mj Mi
def txS(s:ByteArray)(a sh:Nat):ByteArray×Nat×Int:=
 if(dH s a 0).2.2≠0 then(⟨#[]⟩,0,5)else if sh≠6/\bN (dH s a 0).1=false then(⟨#[]⟩,0,6)else((dH s a 0).1,(dH s a 0).2.1,0)
theorem Rp{t:ByteArray}{a k:Nat}(h:¬a+k<=t.size):bp t a 0 k=(⟨#[]⟩,a,5):=by
 have hh:jQ t a k=false:=by simp[jQ];omega
 unfold bp;rw[if_pos rfl,hh];rfl
theorem Qp{t:ByteArray}{a i j:Nat}(hj:a+j<=t.size):(t.extract a t.size).extract i j=t.extract (a+i) (a+j):=by
 refine eX ?_;have e1:∀(s:ByteArray) (i j:Nat),ls (s.extract i j)=(ls s).extract i j:=fun s i j=>by
  unfold ls;simp[ByteArray.data_extract]
 rw[e1,e1,e1];simp only[List.extract_eq_take_drop,List.drop_take,et,List.take_take]
 congr 1
 rw[Nat.min_def];split<;>omega
theorem RU{s:ByteArray}{a:Nat}(ha:a<=s.size):((dH s a 0).2.2≠0/\(dJ (s.extract a s.size)).2.2≠0)\/
  ((dH s a 0).2.2=0/\dJ (s.extract a s.size)=((dH s a 0).1,(dJ (s.extract a s.size)).2.1,0)/\(dH s a 0).2.1=a+(dJ (s.extract a s.size)).2.1/\(dH s a 0).2.1<=s.size):=by
 have hz:(s.extract a s.size).size=s.size- a:=by rw[aj];omega
 by_cases h2:a+2<=s.size
 ·have e1:bp s a 0 (2:Nat)=(s.extract a (a+2),a+2,0):=sd h2;have e2:br (s.extract a s.size) 0 0 2=es (ls (s.extract a (a+2))):=by
   unfold br;have:aH (s.extract a s.size) 0 0 (2:Nat)=((s.extract a s.size).extract 0 (0+2),0+2,0):=dZ (by omega);rw[show((2:Nat):Int)=2 from rfl]at this;rw[this,Qp (by omega)];show es (ls (s.extract (a+0) (a+(0+2))))=_;rw[jV,bV]
  have e3:dH s a 0=bp s (a+2) 0 (es (ls (s.extract a (a+2))):Nat):=by
   unfold dH;rw[show((2:Nat):Int)=2 from rfl]at e1;rw[e1]
  generalize hg:es (ls (s.extract a (a+2)))=g at*
  by_cases h3:a+2+g<=s.size
  ·right
   rw[e3,sd h3];have:dJ (s.extract a s.size)=(s.extract (a+2) (a+(2+g)),2+g,0):=by
    unfold dJ;rw[e2,ae (by omega),ae (by omega),Qp (by omega)]
   rw[this];exact⟨rfl,by rw[show a+(2+g)=a+2+g by omega],by simp only;omega,by simp only;omega⟩
  ·left
   rw[e3,Rp h3];refine⟨by show(5:Int)≠0;decide,?_⟩;unfold dJ;rw[e2,ae (by omega),if_pos (by omega)]
   decide
 ·left
  have e1:bp s a 0 (2:Nat)=(⟨#[]⟩,a,5):=Rp h2;have e3:dH s a 0=(⟨#[]⟩,a,5):=by
   unfold dH;rw[show((2:Nat):Int)=2 from rfl]at e1;rw[e1];rfl
  rw[e3];refine⟨by show(5:Int)≠0;decide,?_⟩;unfold dJ;rw[if_pos (by omega)]
  decide
theorem Si(t:ByteArray)(a:Nat):(dH t a 0).2.2=0\/(dH t a 0).2.2=5:=by
 have h:∀(b:Nat) (e n:Int),e=0\/e=5->(bp t b e n).2.2=0\/(bp t b e n).2.2=5:=by
  intro b e n he;unfold bp;split
  ·split
   ·exact .inl rfl
   ·exact .inr rfl
  ·exact he
 exact h _ _ _ (h _ _ _ (.inl rfl))
theorem QQ(s:ByteArray)(a:Nat)(A:Int)(hA:A=(a:Int))(sh:Nat)(w:World)(ha:a<=s.size)(hs:s.size<=4611686018427387904):
  Calls prog 373 #[.string s,.int .i64 A,.int .i64 sh] w fun e w'=>e= .returned (.tuple #[.string (txS s a sh).1,.int .i64 (txS s a sh).2.1,.int .i64 (txS s a sh).2.2])/\w=w':=by
 subst hA;have HXX:Hid (txS s a sh=if(dH s a 0).2.2≠0 then(⟨#[]⟩,0,5)else if sh≠6/\bN (dH s a 0).1=false then(⟨#[]⟩,0,6)else((dH s a 0).1,(dH s a 0).2.1,0)):=aa rfl;have hz:(s.extract a s.size).size<=4611686018427387904:=by rw[aj];omega
 have i1:(0:Int)<=(a:Int):=by omega
 have i2:(a:Int)<=(s.size:Int):=by omega
 have hr:=RU ha;obtain⟨Z,hZ⟩:∃Z,s.extract a s.size=Z:=⟨_,rfl⟩;rw[hZ]at hz hr;have HZ:=aa hz;have HZE:=aa hZ
 have hcut:s.extract a s.size=Z:=hZ;clear hz hZ;obtain⟨T,N,F,hR⟩:∃T N F,dJ Z=(T,N,F):=⟨_,_,_,rfl⟩;rw[hR]at hr;have HR:=aa hR;clear hR
 rcases hr with ⟨h1,h2⟩ | ⟨h1,h2,h3,h4⟩
 ·have HX:Hid (txS s a sh=(⟨#[]⟩,0,5)):=aa (by rw[HXX.o,if_pos h1]);have e0:(F !=0)=true:=aA.2 h2;clear h1 h2;go_enter func373,ntmps373
  go_wp2_with fail
  refine(QC Z _ HZ.o).mono ?_;rintro e w1 ⟨rfl,rfl⟩;rw[HR.o];simp only;go_wp2;go_ret3;exact⟨by rw[HX.o];rfl,rfl⟩
 obtain⟨rfl,rfl⟩:T=(dH s a 0).1/\F=0:=by cases h2;exact⟨rfl,rfl⟩
 have hX1:txS s a sh=if sh≠6/\bN (dH s a 0).1=false then(⟨#[]⟩,0,6)else((dH s a 0).1,a+N,0):=by rw[HXX.o,ae (by simpa using h1)];simp only at h3;rw[h3]
 have HT:Hid ((dH s a 0).1.size<=4611686018427387904):=aa (by
  have:=(qC ha h1).1;omega)
 have hN:a+N<=s.size:=by simp only at h3;omega
 have HX1:=aa hX1;have w1:IntKind.i64.wrap ((a:Int)+(N:Int))=(a:Int)+(N:Int):=by rw[aQ];omega
 clear h1 h2 h3 h4 hX1 HXX;generalize (dH s a 0).1=T at*
 by_cases h6:sh=6
 ·have HX:Hid (txS s a sh=(T,a+N,0)):=aa (by rw[HX1.o,ae (fun x=>x.1 h6)]);have e6:((sh:Int) !=6)=false:=by simp;omega
  clear h6;go_enter func373,ntmps373
  go_wp2_with fail
  refine(QC Z _ HZ.o).mono ?_;rintro e w1 ⟨rfl,rfl⟩;rw[HR.o];simp only;go_wp2;go_ret3;exact⟨by rw[HX.o];rfl,rfl⟩
 have e6:((sh:Int) !=6)=true:=aA.2 (by omega);cases hv:bN T
 ·have HX:Hid (txS s a sh=(⟨#[]⟩,0,6)):=aa (by rw[HX1.o,if_pos ⟨h6,hv⟩]);have HV:=aa hv;clear hv h6
  go_enter func373,ntmps373
  go_wp2_with fail
  refine(QC Z _ HZ.o).mono ?_;rintro e w1 ⟨rfl,rfl⟩;rw[HR.o];simp only
  go_wp2_with fail
  refine(xj T _ HT.o).mono ?_;rintro e w1 ⟨rfl,rfl⟩;rw[HV.o];go_wp2;go_ret3;exact⟨by rw[HX.o];rfl,rfl⟩
 ·have HX:Hid (txS s a sh=(T,a+N,0)):=aa (by rw[HX1.o,ae (fun x=>by rw[hv]at x;cases x.2)]);have HV:=aa hv;clear hv h6
  go_enter func373,ntmps373
  go_wp2_with fail
  refine(QC Z _ HZ.o).mono ?_;rintro e w1 ⟨rfl,rfl⟩;rw[HR.o];simp only
  go_wp2_with fail
  refine(xj T _ HT.o).mono ?_;rintro e w1 ⟨rfl,rfl⟩;rw[HV.o];go_wp2;go_ret3;exact⟨by rw[HX.o];rfl,rfl⟩
abbrev PrT:TypeId:=102
def QT(s:ByteArray)(sh:Nat)(id:Int)(w:World)(e:Ending)(w':World):Prop:=
 ∃(P:Pr) (k:Int),e= .returned (.tuple #[P.val,.int .i64 k,.int .i64 (dW sh s 1).err])/\((dW sh s 1).err=0->P=⟨id,(dW sh s 1).n,(dW sh s 1).text,(dW sh s 1).value⟩/\k=(dW sh s 1).at_)/\Below w.heap.size w w'
theorem QO{s:ByteArray}{sh n k:Nat}{id:Int}{t v:ByteArray}{w w':World}(hv:dW sh s 1=⟨n,t,v,k,0⟩)(hb:Below w.heap.size w w'):QT s sh id w (.returned (.tuple #[.agg #[.int .i64 id,.int .u32 n,.string t,.string v],.int .i64 k,.int .i64 0])) w':=by
 refine⟨⟨id,n,t,v⟩,k,?_,?_,hb⟩
 ·rw[hv];rfl
 ·intro _;rw[hv];exact⟨rfl,rfl⟩
theorem QG{s:ByteArray}{sh n:Nat}{id k E:Int}{t v:ByteArray}{w w':World}(hv:(dW sh s 1).err=E)(hE:E≠0)(hb:Below w.heap.size w w'):QT s sh id w (.returned (.tuple #[.agg #[.int .i64 id,.int .u32 n,.string t,.string v],.int .i64 k,.int .i64 E])) w':=by
 refine⟨⟨id,n,t,v⟩,k,?_,?_,hb⟩
 ·rw[hv];rfl
 ·intro h;rw[hv]at h;exact absurd h hE
theorem QA{fn:Func}{p q r:Tmp}(hr:fn.results= #[.cell p PrT,.tmp q,.tmp r])(tmps:Array Value){w:World}{g:Nat}{a b c d:Value}(hp:tmps.getD p undef= .pointer (some ⟨g,0,none⟩))(hb:Bk w g PrT #[a,b,c,d]):
  (results fn tmps).run prog w= .ok (.tuple #[.agg #[a,b,c,d],tmps.getD q undef,tmps.getD r undef]) w:=by
 obtain⟨⟨c0,c1,c2,c3⟩,-⟩:=hb.four;rw[Jf]at hp;simp only[results,hr];simp[hp,go_sem,c0,c1,c2,c3]
theorem Tm{s:ByteArray}{a sh:Nat}(h6:sh≠6):(dd s a 0).2.2=(txS s a sh).2.2/\((txS s a sh).2.2=0->dd s a 0=((txS s a sh).1,(txS s a sh).2.1,0)):=by
 unfold dd txS;rcases Si s a with h| h
 ·cases hv:bN (dH s a 0).1
  ·simp[h,h6]
  ·simp[h]
 ·simp[h]
theorem Um{s:ByteArray}{a:Nat}:(dH s a 0).2.2=(txS s a 6).2.2/\((txS s a 6).2.2=0->dH s a 0=((txS s a 6).1,(txS s a 6).2.1,0)):=by
 unfold txS;rcases Si s a with h| h
 ·rw[ae (by simpa using h),ae (fun x=>x.1 rfl)];exact⟨h,fun _=>Prod.ext rfl (Prod.ext rfl h)⟩
 ·rw[if_pos (by rw[h];decide)];exact⟨h,fun x=>by cases x⟩
theorem Tn{s:ByteArray}{a sh:Nat}(ha:a<=s.size)(h:(txS s a sh).2.2=0):(txS s a sh).2.1<=s.size:=by
 have hd:(dH s a 0).2.2=0/\(txS s a sh).2.1=(dH s a 0).2.1:=by
  unfold txS at h⊢
  by_cases h0:(dH s a 0).2.2=0
  ·rw[ae (by simpa using h0)]at h⊢
   by_cases h1:sh≠6/\bN (dH s a 0).1=false
   ·rw[if_pos h1]at h;cases h
   ·rw[ae h1];exact⟨h0,rfl⟩
  ·rw[if_pos h0]at h;cases h
 rcases RU ha with ⟨h1,-⟩ | ⟨-,-,-,h4⟩
 ·exact absurd hd.1 h1
 ·rw[hd.2];exact h4
theorem Ue(s:ByteArray)(b0:UInt8)(h:0<s.size)(hb0:s[0]=b0)(hsh:gH (b0.toNat:Int)=1)(w:World)(hs:s.size<=4611686018427387904):
  Calls prog 344 #[.string s] w (QT s 1 (b0.toNat:Int) w):=by
 have h0:(0:Int)<(s.size:Int):=by omega
 obtain⟨sh',ki,le,mo,hR⟩:∃sh ki le mo,cr (b0.toNat:Int)=⟨sh,ki,le,mo⟩:=⟨_,_,_,_,rfl⟩;have hs':sh'=1:=by
  have:(cr (b0.toNat:Int)).shape=1:=hsh;rw[hR]at this;exact this
 subst hs';have HR:=aa hR;clear hsh hR;have hw0:IntKind.i64.wrap (b0.toNat:Int)=(b0.toNat:Int):=by rw[aQ];have:=b0.toNat_lt;omega
 have R0:=aa ((Bk.fresh w PrT #[.int .i64 0,.int .u32 0,.string ⟨#[]⟩,.string ⟨#[]⟩]).alloc (.cells #[.int .i64 (b0.toNat:Int),.int .u32 0,.string ⟨#[]⟩,.string ⟨#[]⟩] PrT));have P0:=aa (Bk.fresh (w.alloc (.cells #[.int .i64 0,.int .u32 0,.string ⟨#[]⟩,.string ⟨#[]⟩] PrT)) PrT #[.int .i64 (b0.toNat:Int),.int .u32 0,.string ⟨#[]⟩,.string ⟨#[]⟩]);rw[bi]at P0;have B0:=aa (((aq w.heap.size w).alloc (ac _) (.cells #[.int .i64 0,.int .u32 0,.string ⟨#[]⟩,.string ⟨#[]⟩] PrT)).alloc (by simp) (.cells #[.int .i64 (b0.toNat:Int),.int .u32 0,.string ⟨#[]⟩,.string ⟨#[]⟩] PrT))
 by_cases hsz:1+1<=s.size
 rotate_left
 ·have HV:Hid ((dW 1 s 1).err=5):=aa (by
   have e:bp s 1 0 (1:Nat)=(⟨#[]⟩,1,5):=Rp hsz;show(bp s 1 0 1).2.2=5;rw[show(1:Int)=((1:Nat):Int)from rfl,e])
  have w0:IntKind.i64.wrap ((s.size:Int) - 1)=(s.size:Int) - 1:=by rw[aQ];omega
  have d0:decide ((s.size:Int) - 1<1)=true:=au (by omega);clear hsz;go_enter func344,ntmps344
  go_wp2_with fail
  refine(Gz (b0.toNat:Int) _).mono ?_;rintro e w1 ⟨A,c,rfl,-,hb⟩;unfold Hp;rw[HR.o];have R1:=aa (R0.o.below hb R0.o.lt);have P1:=aa (P0.o.below hb P0.o.lt);have B1:=aa (B0.o.trans (hb.mono B0.o.size));clear hb
  obtain⟨⟨r0,r1,r2,r3⟩,s0,s1,s2,s3⟩:=R1.o.four;obtain⟨⟨c0,c1,c2,c3⟩,f0,f1,f2,f3⟩:=P1.o.four;have R2:=aa (R1.o.alloc (.cells #[.int .i64 0,.int .i64 1,.int .i64 2,.int .i64 4] 3));have B2:=aa (B1.o.alloc B1.o.size (.cells #[.int .i64 0,.int .i64 1,.int .i64 2,.int .i64 4] 3));have P2:=aa (P1.o.alloc (.cells #[.int .i64 0,.int .i64 1,.int .i64 2,.int .i64 4] 3));obtain⟨⟨e0,e1,e2,e3⟩,k0,k1,k2,k3⟩:=P2.o.four;obtain⟨⟨t0,t1,t2,t3⟩,u0,u1,u2,u3⟩:=R2.o.four;go_wp2;refine av (QA rfl _ rfl R2.o.put_four) rfl ?_;exact QG (n:=0) HV.o (by decide) (cD B2.o (ac _) _ _ _ _)
 ·have HV:Hid (dW 1 s 1=⟨es (ls (s.extract 1 2)),⟨#[]⟩,⟨#[]⟩,2,0⟩):=aa (by
   have e:bp s 1 0 (1:Nat)=(s.extract 1 (1+1),1+1,0):=sd hsz;show(⟨es (ls (bp s 1 0 1).1),⟨#[]⟩,⟨#[]⟩,(bp s 1 0 1).2.1,(bp s 1 0 1).2.2⟩:VRead)=_;rw[show(1:Int)=((1:Nat):Int)from rfl,e])
  have w0:IntKind.i64.wrap ((s.size:Int) - 1)=(s.size:Int) - 1:=by rw[aQ];omega
  have d0:decide ((s.size:Int) - 1<1)=false:=ah (by omega);have i3:(2:Int)<=(s.size:Int):=by omega
  have HZ:Hid ((s.extract 1 2).size<=8):=aa (by rw[aj];omega);have HG:Hid (es (ls (s.extract 1 2))<4294967296):=aa (by
   have h1:=ka (ls (s.extract 1 2));rw[aN,aj,show min 2 s.size- 1=1 by omega]at h1;omega)
  clear hsz;go_enter func344,ntmps344
  go_wp2_with fail
  refine(Gz (b0.toNat:Int) _).mono ?_;rintro e w1 ⟨A,c,rfl,-,hb⟩;unfold Hp;rw[HR.o];have R1:=aa (R0.o.below hb R0.o.lt);have P1:=aa (P0.o.below hb P0.o.lt);have B1:=aa (B0.o.trans (hb.mono B0.o.size));clear hb
  obtain⟨⟨r0,r1,r2,r3⟩,s0,s1,s2,s3⟩:=R1.o.four;obtain⟨⟨c0,c1,c2,c3⟩,f0,f1,f2,f3⟩:=P1.o.four;have R2:=aa (R1.o.alloc (.cells #[.int .i64 0,.int .i64 1,.int .i64 2,.int .i64 4] 3));have P2:=aa (P1.o.alloc (.cells #[.int .i64 0,.int .i64 1,.int .i64 2,.int .i64 4] 3));have B2:=aa (B1.o.alloc B1.o.size (.cells #[.int .i64 0,.int .i64 1,.int .i64 2,.int .i64 4] 3));obtain⟨⟨e0,e1,e2,e3⟩,k0,k1,k2,k3⟩:=P2.o.four;obtain⟨⟨t0,t1,t2,t3⟩,u0,u1,u2,u3⟩:=R2.o.four
  go_wp2_with fail
  refine(QS _ _ HZ.o).mono ?_;rintro e w2 ⟨rfl,rfl⟩;generalize es (ls (s.extract 1 2))=G at*;have hwG:IntKind.u32.wrap (G:Int)=(G:Int):=by rw[oy];have:=HG.o;omega
  have R3:=aa (R2.o.other (p:=⟨w.heap.size+1,1,none⟩) (by simp) (.int .u32 (G:Int)));have B3:=aa (B2.o.setCell (show w.heap.size<=(⟨w.heap.size+1,1,none⟩:Addr).block by simp) (.int .u32 (G:Int)));go_wp2;refine av (QA rfl _ rfl R3.o.put_four) rfl ?_;exact QO HV.o (cD B3.o (ac _) _ _ _ _)
theorem Ud(s:ByteArray)(b0:UInt8)(h:0<s.size)(hb0:s[0]=b0)(hsh:gH (b0.toNat:Int)=2)(w:World)(hs:s.size<=4611686018427387904):
  Calls prog 344 #[.string s] w (QT s 2 (b0.toNat:Int) w):=by
 have h0:(0:Int)<(s.size:Int):=by omega
 obtain⟨sh',ki,le,mo,hR⟩:∃sh ki le mo,cr (b0.toNat:Int)=⟨sh,ki,le,mo⟩:=⟨_,_,_,_,rfl⟩;have hs':sh'=2:=by
  have:(cr (b0.toNat:Int)).shape=2:=hsh;rw[hR]at this;exact this
 subst hs';have HR:=aa hR;clear hsh hR;have hw0:IntKind.i64.wrap (b0.toNat:Int)=(b0.toNat:Int):=by rw[aQ];have:=b0.toNat_lt;omega
 have R0:=aa ((Bk.fresh w PrT #[.int .i64 0,.int .u32 0,.string ⟨#[]⟩,.string ⟨#[]⟩]).alloc (.cells #[.int .i64 (b0.toNat:Int),.int .u32 0,.string ⟨#[]⟩,.string ⟨#[]⟩] PrT));have P0:=aa (Bk.fresh (w.alloc (.cells #[.int .i64 0,.int .u32 0,.string ⟨#[]⟩,.string ⟨#[]⟩] PrT)) PrT #[.int .i64 (b0.toNat:Int),.int .u32 0,.string ⟨#[]⟩,.string ⟨#[]⟩]);rw[bi]at P0;have B0:=aa (((aq w.heap.size w).alloc (ac _) (.cells #[.int .i64 0,.int .u32 0,.string ⟨#[]⟩,.string ⟨#[]⟩] PrT)).alloc (by simp) (.cells #[.int .i64 (b0.toNat:Int),.int .u32 0,.string ⟨#[]⟩,.string ⟨#[]⟩] PrT))
 by_cases hsz:1+2<=s.size
 rotate_left
 ·have HV:Hid ((dW 2 s 1).err=5):=aa (by
   have e:bp s 1 0 (2:Nat)=(⟨#[]⟩,1,5):=Rp hsz;show(bp s 1 0 2).2.2=5;rw[show(2:Int)=((2:Nat):Int)from rfl,e])
  have w0:IntKind.i64.wrap ((s.size:Int) - 1)=(s.size:Int) - 1:=by rw[aQ];omega
  have d0:decide ((s.size:Int) - 1<2)=true:=au (by omega);clear hsz;go_enter func344,ntmps344
  go_wp2_with fail
  refine(Gz (b0.toNat:Int) _).mono ?_;rintro e w1 ⟨A,c,rfl,-,hb⟩;unfold Hp;rw[HR.o];have R1:=aa (R0.o.below hb R0.o.lt);have P1:=aa (P0.o.below hb P0.o.lt);have B1:=aa (B0.o.trans (hb.mono B0.o.size));clear hb
  obtain⟨⟨r0,r1,r2,r3⟩,s0,s1,s2,s3⟩:=R1.o.four;obtain⟨⟨c0,c1,c2,c3⟩,f0,f1,f2,f3⟩:=P1.o.four;have R2:=aa (R1.o.alloc (.cells #[.int .i64 0,.int .i64 1,.int .i64 2,.int .i64 4] 3));have B2:=aa (B1.o.alloc B1.o.size (.cells #[.int .i64 0,.int .i64 1,.int .i64 2,.int .i64 4] 3));have P2:=aa (P1.o.alloc (.cells #[.int .i64 0,.int .i64 1,.int .i64 2,.int .i64 4] 3));obtain⟨⟨e0,e1,e2,e3⟩,k0,k1,k2,k3⟩:=P2.o.four;obtain⟨⟨t0,t1,t2,t3⟩,u0,u1,u2,u3⟩:=R2.o.four;go_wp2;refine av (QA rfl _ rfl R2.o.put_four) rfl ?_;exact QG (n:=0) HV.o (by decide) (cD B2.o (ac _) _ _ _ _)
 ·have HV:Hid (dW 2 s 1=⟨es (ls (s.extract 1 3)),⟨#[]⟩,⟨#[]⟩,3,0⟩):=aa (by
   have e:bp s 1 0 (2:Nat)=(s.extract 1 (1+2),1+2,0):=sd hsz;show(⟨es (ls (bp s 1 0 2).1),⟨#[]⟩,⟨#[]⟩,(bp s 1 0 2).2.1,(bp s 1 0 2).2.2⟩:VRead)=_;rw[show(2:Int)=((2:Nat):Int)from rfl,e])
  have w0:IntKind.i64.wrap ((s.size:Int) - 1)=(s.size:Int) - 1:=by rw[aQ];omega
  have d0:decide ((s.size:Int) - 1<2)=false:=ah (by omega);have i3:(3:Int)<=(s.size:Int):=by omega
  have HZ:Hid ((s.extract 1 3).size<=8):=aa (by rw[aj];omega);have HG:Hid (es (ls (s.extract 1 3))<4294967296):=aa (by
   have h1:=ka (ls (s.extract 1 3));rw[aN,aj,show min 3 s.size- 1=2 by omega]at h1;omega)
  clear hsz;go_enter func344,ntmps344
  go_wp2_with fail
  refine(Gz (b0.toNat:Int) _).mono ?_;rintro e w1 ⟨A,c,rfl,-,hb⟩;unfold Hp;rw[HR.o];have R1:=aa (R0.o.below hb R0.o.lt);have P1:=aa (P0.o.below hb P0.o.lt);have B1:=aa (B0.o.trans (hb.mono B0.o.size));clear hb
  obtain⟨⟨r0,r1,r2,r3⟩,s0,s1,s2,s3⟩:=R1.o.four;obtain⟨⟨c0,c1,c2,c3⟩,f0,f1,f2,f3⟩:=P1.o.four;have R2:=aa (R1.o.alloc (.cells #[.int .i64 0,.int .i64 1,.int .i64 2,.int .i64 4] 3));have P2:=aa (P1.o.alloc (.cells #[.int .i64 0,.int .i64 1,.int .i64 2,.int .i64 4] 3));have B2:=aa (B1.o.alloc B1.o.size (.cells #[.int .i64 0,.int .i64 1,.int .i64 2,.int .i64 4] 3));obtain⟨⟨e0,e1,e2,e3⟩,k0,k1,k2,k3⟩:=P2.o.four;obtain⟨⟨t0,t1,t2,t3⟩,u0,u1,u2,u3⟩:=R2.o.four
  go_wp2_with fail
  refine(QS _ _ HZ.o).mono ?_;rintro e w2 ⟨rfl,rfl⟩;generalize es (ls (s.extract 1 3))=G at*;have hwG:IntKind.u32.wrap (G:Int)=(G:Int):=by rw[oy];have:=HG.o;omega
  have R3:=aa (R2.o.other (p:=⟨w.heap.size+1,1,none⟩) (by simp) (.int .u32 (G:Int)));have B3:=aa (B2.o.setCell (show w.heap.size<=(⟨w.heap.size+1,1,none⟩:Addr).block by simp) (.int .u32 (G:Int)));go_wp2;refine av (QA rfl _ rfl R3.o.put_four) rfl ?_;exact QO HV.o (cD B3.o (ac _) _ _ _ _)
theorem Uc(s:ByteArray)(b0:UInt8)(h:0<s.size)(hb0:s[0]=b0)(hsh:gH (b0.toNat:Int)=3)(w:World)(hs:s.size<=4611686018427387904):
  Calls prog 344 #[.string s] w (QT s 3 (b0.toNat:Int) w):=by
 have h0:(0:Int)<(s.size:Int):=by omega
 obtain⟨sh',ki,le,mo,hR⟩:∃sh ki le mo,cr (b0.toNat:Int)=⟨sh,ki,le,mo⟩:=⟨_,_,_,_,rfl⟩;have hs':sh'=3:=by
  have:(cr (b0.toNat:Int)).shape=3:=hsh;rw[hR]at this;exact this
 subst hs';have HR:=aa hR;clear hsh hR;have hw0:IntKind.i64.wrap (b0.toNat:Int)=(b0.toNat:Int):=by rw[aQ];have:=b0.toNat_lt;omega
 have R0:=aa ((Bk.fresh w PrT #[.int .i64 0,.int .u32 0,.string ⟨#[]⟩,.string ⟨#[]⟩]).alloc (.cells #[.int .i64 (b0.toNat:Int),.int .u32 0,.string ⟨#[]⟩,.string ⟨#[]⟩] PrT));have P0:=aa (Bk.fresh (w.alloc (.cells #[.int .i64 0,.int .u32 0,.string ⟨#[]⟩,.string ⟨#[]⟩] PrT)) PrT #[.int .i64 (b0.toNat:Int),.int .u32 0,.string ⟨#[]⟩,.string ⟨#[]⟩]);rw[bi]at P0;have B0:=aa (((aq w.heap.size w).alloc (ac _) (.cells #[.int .i64 0,.int .u32 0,.string ⟨#[]⟩,.string ⟨#[]⟩] PrT)).alloc (by simp) (.cells #[.int .i64 (b0.toNat:Int),.int .u32 0,.string ⟨#[]⟩,.string ⟨#[]⟩] PrT))
 by_cases hsz:1+4<=s.size
 rotate_left
 ·have HV:Hid ((dW 3 s 1).err=5):=aa (by
   have e:bp s 1 0 (4:Nat)=(⟨#[]⟩,1,5):=Rp hsz;show(bp s 1 0 4).2.2=5;rw[show(4:Int)=((4:Nat):Int)from rfl,e])
  have w0:IntKind.i64.wrap ((s.size:Int) - 1)=(s.size:Int) - 1:=by rw[aQ];omega
  have d0:decide ((s.size:Int) - 1<4)=true:=au (by omega);clear hsz;go_enter func344,ntmps344
  go_wp2_with fail
  refine(Gz (b0.toNat:Int) _).mono ?_;rintro e w1 ⟨A,c,rfl,-,hb⟩;unfold Hp;rw[HR.o];have R1:=aa (R0.o.below hb R0.o.lt);have P1:=aa (P0.o.below hb P0.o.lt);have B1:=aa (B0.o.trans (hb.mono B0.o.size));clear hb
  obtain⟨⟨r0,r1,r2,r3⟩,s0,s1,s2,s3⟩:=R1.o.four;obtain⟨⟨c0,c1,c2,c3⟩,f0,f1,f2,f3⟩:=P1.o.four;have R2:=aa (R1.o.alloc (.cells #[.int .i64 0,.int .i64 1,.int .i64 2,.int .i64 4] 3));have B2:=aa (B1.o.alloc B1.o.size (.cells #[.int .i64 0,.int .i64 1,.int .i64 2,.int .i64 4] 3));have P2:=aa (P1.o.alloc (.cells #[.int .i64 0,.int .i64 1,.int .i64 2,.int .i64 4] 3));obtain⟨⟨e0,e1,e2,e3⟩,k0,k1,k2,k3⟩:=P2.o.four;obtain⟨⟨t0,t1,t2,t3⟩,u0,u1,u2,u3⟩:=R2.o.four;go_wp2;refine av (QA rfl _ rfl R2.o.put_four) rfl ?_;exact QG (n:=0) HV.o (by decide) (cD B2.o (ac _) _ _ _ _)
 ·have HV:Hid (dW 3 s 1=⟨es (ls (s.extract 1 5)),⟨#[]⟩,⟨#[]⟩,5,0⟩):=aa (by
   have e:bp s 1 0 (4:Nat)=(s.extract 1 (1+4),1+4,0):=sd hsz;show(⟨es (ls (bp s 1 0 4).1),⟨#[]⟩,⟨#[]⟩,(bp s 1 0 4).2.1,(bp s 1 0 4).2.2⟩:VRead)=_;rw[show(4:Int)=((4:Nat):Int)from rfl,e])
  have w0:IntKind.i64.wrap ((s.size:Int) - 1)=(s.size:Int) - 1:=by rw[aQ];omega
  have d0:decide ((s.size:Int) - 1<4)=false:=ah (by omega);have i3:(5:Int)<=(s.size:Int):=by omega
  have HZ:Hid ((s.extract 1 5).size<=8):=aa (by rw[aj];omega);have HG:Hid (es (ls (s.extract 1 5))<4294967296):=aa (by
   have h1:=ka (ls (s.extract 1 5));rw[aN,aj,show min 5 s.size- 1=4 by omega]at h1;omega)
  clear hsz;go_enter func344,ntmps344
  go_wp2_with fail
  refine(Gz (b0.toNat:Int) _).mono ?_;rintro e w1 ⟨A,c,rfl,-,hb⟩;unfold Hp;rw[HR.o];have R1:=aa (R0.o.below hb R0.o.lt);have P1:=aa (P0.o.below hb P0.o.lt);have B1:=aa (B0.o.trans (hb.mono B0.o.size));clear hb
  obtain⟨⟨r0,r1,r2,r3⟩,s0,s1,s2,s3⟩:=R1.o.four;obtain⟨⟨c0,c1,c2,c3⟩,f0,f1,f2,f3⟩:=P1.o.four;have R2:=aa (R1.o.alloc (.cells #[.int .i64 0,.int .i64 1,.int .i64 2,.int .i64 4] 3));have P2:=aa (P1.o.alloc (.cells #[.int .i64 0,.int .i64 1,.int .i64 2,.int .i64 4] 3));have B2:=aa (B1.o.alloc B1.o.size (.cells #[.int .i64 0,.int .i64 1,.int .i64 2,.int .i64 4] 3));obtain⟨⟨e0,e1,e2,e3⟩,k0,k1,k2,k3⟩:=P2.o.four;obtain⟨⟨t0,t1,t2,t3⟩,u0,u1,u2,u3⟩:=R2.o.four
  go_wp2_with fail
  refine(QS _ _ HZ.o).mono ?_;rintro e w2 ⟨rfl,rfl⟩;generalize es (ls (s.extract 1 5))=G at*;have hwG:IntKind.u32.wrap (G:Int)=(G:Int):=by rw[oy];have:=HG.o;omega
  have R3:=aa (R2.o.other (p:=⟨w.heap.size+1,1,none⟩) (by simp) (.int .u32 (G:Int)));have B3:=aa (B2.o.setCell (show w.heap.size<=(⟨w.heap.size+1,1,none⟩:Addr).block by simp) (.int .u32 (G:Int)));go_wp2;refine av (QA rfl _ rfl R3.o.put_four) rfl ?_;exact QO HV.o (cD B3.o (ac _) _ _ _ _)
theorem Ub(s:ByteArray)(b0:UInt8)(h:0<s.size)(hb0:s[0]=b0)(hsh:gH (b0.toNat:Int)=4)(w:World)(hs:s.size<=4611686018427387904):
  Calls prog 344 #[.string s] w (QT s 4 (b0.toNat:Int) w):=by
 have h0:(0:Int)<(s.size:Int):=by omega
 obtain⟨sh',ki,le,mo,hR⟩:∃sh ki le mo,cr (b0.toNat:Int)=⟨sh,ki,le,mo⟩:=⟨_,_,_,_,rfl⟩;have hs':sh'=4:=by
  have:(cr (b0.toNat:Int)).shape=4:=hsh;rw[hR]at this;exact this
 subst hs';have HR:=aa hR;clear hsh hR;have hw0:IntKind.i64.wrap (b0.toNat:Int)=(b0.toNat:Int):=by rw[aQ];have:=b0.toNat_lt;omega
 have R0:=aa ((Bk.fresh w PrT #[.int .i64 0,.int .u32 0,.string ⟨#[]⟩,.string ⟨#[]⟩]).alloc (.cells #[.int .i64 (b0.toNat:Int),.int .u32 0,.string ⟨#[]⟩,.string ⟨#[]⟩] PrT));have P0:=aa (Bk.fresh (w.alloc (.cells #[.int .i64 0,.int .u32 0,.string ⟨#[]⟩,.string ⟨#[]⟩] PrT)) PrT #[.int .i64 (b0.toNat:Int),.int .u32 0,.string ⟨#[]⟩,.string ⟨#[]⟩]);rw[bi]at P0;have B0:=aa (((aq w.heap.size w).alloc (ac _) (.cells #[.int .i64 0,.int .u32 0,.string ⟨#[]⟩,.string ⟨#[]⟩] PrT)).alloc (by simp) (.cells #[.int .i64 (b0.toNat:Int),.int .u32 0,.string ⟨#[]⟩,.string ⟨#[]⟩] PrT));have i2:(1:Int)<=(s.size:Int):=by omega
 have HL:Hid (ls (s.extract 1 s.size)=(ls s).drop 1):=aa (ju s 1);have HZ:Hid ((s.extract 1 s.size).size<=4611686018427387904):=aa (by rw[aj];omega);have HLE:Hid ((s.extract 1 s.size).size+1=s.size):=aa (by rw[aj];omega);have HVV:Hid (dW 4 s 1=⟨(mz s 1).1,⟨#[]⟩,⟨#[]⟩,(mz s 1).2.1,(mz s 1).2.2⟩):=aa rfl;have HVR:Hid (mz s 1=if(bm (ls (s.extract 1 s.size))).2.2=0 then((bm (ls (s.extract 1 s.size))).1,1+(bm (ls (s.extract 1 s.size))).2.1,0)else((bm (ls (s.extract 1 s.size))).1,1,5)):=aa (by rw[HL.o];rfl);have HBK:Hid (∀n k,bm (ls (s.extract 1 s.size))=(n,k,0)->n<=268435455/\k<=4):=aa (fun n k hr=>by
  obtain⟨-,h2,h3⟩:=mE hr;refine⟨h3,?_⟩;rw[h2,LG];split;omega;split;omega;split;omega;omega)
 obtain⟨N,K,F,hRV⟩:∃N K F,bm (ls (s.extract 1 s.size))=(N,K,F):=⟨_,_,_,rfl⟩;rw[hRV]at HVR HBK;have HRV:=aa hRV;clear hRV
 by_cases hF:F=0
 rotate_left
 ·have HV:Hid ((dW 4 s 1).err=5):=aa (by rw[HVV.o,HVR.o,ae hF]);have e0:(F !=0)=true:=aA.2 hF;clear hF;go_enter func344,ntmps344
  go_wp2_with fail
  refine(Gz (b0.toNat:Int) _).mono ?_;rintro e w1 ⟨A,c,rfl,-,hb⟩;unfold Hp;rw[HR.o];have R1:=aa (R0.o.below hb R0.o.lt);have P1:=aa (P0.o.below hb P0.o.lt);have B1:=aa (B0.o.trans (hb.mono B0.o.size));clear hb
  obtain⟨⟨r0,r1,r2,r3⟩,s0,s1,s2,s3⟩:=R1.o.four;obtain⟨⟨c0,c1,c2,c3⟩,f0,f1,f2,f3⟩:=P1.o.four
  go_wp2_with fail
  refine(QM _ _ HZ.o).mono ?_;rintro e w2 ⟨rfl,rfl⟩;rw[HRV.o];simp only;go_wp2;refine av (QA rfl _ rfl R1.o.put_four) rfl ?_;exact QG (n:=0) HV.o (by decide) (cD B1.o (ac _) _ _ _ _)
 ·subst hF;have HV:Hid (dW 4 s 1=⟨N,⟨#[]⟩,⟨#[]⟩,1+K,0⟩):=aa (by rw[HVV.o,HVR.o,if_pos rfl]);have hNK:=HBK.o N K rfl;have hwG:IntKind.u32.wrap (N:Int)=(N:Int):=by rw[oy];omega
  have hwK:IntKind.i64.wrap (1+(K:Int))=1+(K:Int):=by rw[aQ];omega
  have HK:Hid (((1+K:Nat):Int)=1+(K:Int)):=aa (by omega);clear hNK;go_enter func344,ntmps344
  go_wp2_with fail
  refine(Gz (b0.toNat:Int) _).mono ?_;rintro e w1 ⟨A,c,rfl,-,hb⟩;unfold Hp;rw[HR.o];have R1:=aa (R0.o.below hb R0.o.lt);have P1:=aa (P0.o.below hb P0.o.lt);have B1:=aa (B0.o.trans (hb.mono B0.o.size));clear hb
  obtain⟨⟨r0,r1,r2,r3⟩,s0,s1,s2,s3⟩:=R1.o.four;obtain⟨⟨c0,c1,c2,c3⟩,f0,f1,f2,f3⟩:=P1.o.four
  go_wp2_with fail
  refine(QM _ _ HZ.o).mono ?_;rintro e w2 ⟨rfl,rfl⟩;rw[HRV.o];simp only;have R3:=aa (R1.o.other (p:=⟨w.heap.size+1,1,none⟩) (by simp) (.int .u32 (N:Int)));have B3:=aa (B1.o.setCell (show w.heap.size<=(⟨w.heap.size+1,1,none⟩:Addr).block by simp) (.int .u32 (N:Int)));go_wp2;refine av (QA rfl _ rfl R3.o.put_four) rfl ?_;have hfin:=QO (id:=(b0.toNat:Int)) HV.o (cD B3.o (ac _) (.int .i64 (b0.toNat:Int)) (.int .u32 (N:Int)) (.string ⟨#[]⟩) (.string ⟨#[]⟩));rw[HK.o]at hfin;exact hfin
theorem Ua(s:ByteArray)(b0:UInt8)(h:0<s.size)(hb0:s[0]=b0)(hsh:gH (b0.toNat:Int)=5)(w:World)(hs:s.size<=4611686018427387904):
  Calls prog 344 #[.string s] w (QT s 5 (b0.toNat:Int) w):=by
 have h0:(0:Int)<(s.size:Int):=by omega
 obtain⟨sh',ki,le,mo,hR⟩:∃sh ki le mo,cr (b0.toNat:Int)=⟨sh,ki,le,mo⟩:=⟨_,_,_,_,rfl⟩;have hs':sh'=5:=by
  have:(cr (b0.toNat:Int)).shape=5:=hsh;rw[hR]at this;exact this
 subst hs';have HR:=aa hR;clear hsh hR;have hw0:IntKind.i64.wrap (b0.toNat:Int)=(b0.toNat:Int):=by rw[aQ];have:=b0.toNat_lt;omega
 have R0:=aa ((Bk.fresh w PrT #[.int .i64 0,.int .u32 0,.string ⟨#[]⟩,.string ⟨#[]⟩]).alloc (.cells #[.int .i64 (b0.toNat:Int),.int .u32 0,.string ⟨#[]⟩,.string ⟨#[]⟩] PrT));have P0:=aa (Bk.fresh (w.alloc (.cells #[.int .i64 0,.int .u32 0,.string ⟨#[]⟩,.string ⟨#[]⟩] PrT)) PrT #[.int .i64 (b0.toNat:Int),.int .u32 0,.string ⟨#[]⟩,.string ⟨#[]⟩]);rw[bi]at P0;have B0:=aa (((aq w.heap.size w).alloc (ac _) (.cells #[.int .i64 0,.int .u32 0,.string ⟨#[]⟩,.string ⟨#[]⟩] PrT)).alloc (by simp) (.cells #[.int .i64 (b0.toNat:Int),.int .u32 0,.string ⟨#[]⟩,.string ⟨#[]⟩] PrT));have HA:Hid (1<=s.size):=aa h;have HAT:Hid ((txS s 1 5).2.2=0->(txS s 1 5).2.1<=s.size):=aa (Tn (sh:=5) h);have HVV:Hid ((dW 5 s 1).err=(txS s 1 5).2.2/\((txS s 1 5).2.2=0->dW 5 s 1=⟨0,(txS s 1 5).1,⟨#[]⟩,(txS s 1 5).2.1,0⟩)):=aa (by
  have hh:=Tm (s:=s) (a:=1) (sh:=5) (by decide);refine⟨hh.1,fun h0=>?_⟩;show(⟨0,(dd s 1 0).1,⟨#[]⟩,(dd s 1 0).2.1,(dd s 1 0).2.2⟩:VRead)=_;rw[hh.2 h0])
 obtain⟨T,N,F,hTX⟩:∃T N F,txS s 1 5=(T,N,F):=⟨_,_,_,rfl⟩;rw[hTX]at HVV HAT;have HTX:=aa hTX;clear hTX
 by_cases hF:F=0
 rotate_left
 ·have HV:Hid ((dW 5 s 1).err=F):=aa HVV.o.1;have e0:(F==0)=false:=ar.2 hF;have HF:=aa hF;clear hF;go_enter func344,ntmps344
  go_wp2_with fail
  refine(Gz (b0.toNat:Int) _).mono ?_;rintro e w1 ⟨A,c,rfl,-,hb⟩;unfold Hp;rw[HR.o];have R1:=aa (R0.o.below hb R0.o.lt);have P1:=aa (P0.o.below hb P0.o.lt);have B1:=aa (B0.o.trans (hb.mono B0.o.size));clear hb
  obtain⟨⟨r0,r1,r2,r3⟩,s0,s1,s2,s3⟩:=R1.o.four;obtain⟨⟨c0,c1,c2,c3⟩,f0,f1,f2,f3⟩:=P1.o.four
  go_wp2_with fail
  refine(QQ s 1 1 rfl 5 _ HA.o hs).mono ?_;rintro e w2 ⟨rfl,rfl⟩;rw[HTX.o];simp only;have R3:=aa (R1.o.other (p:=⟨w.heap.size+1,2,none⟩) (by simp) (.string T));have B3:=aa (B1.o.setCell (show w.heap.size<=(⟨w.heap.size+1,2,none⟩:Addr).block by simp) (.string T));go_wp2;refine av (QA rfl _ rfl R3.o.put_four) rfl ?_;exact QG (n:=0) HV.o HF.o (cD B3.o (ac _) _ _ _ _)
 ·subst hF;have HV:Hid (dW 5 s 1=⟨0,T,⟨#[]⟩,N,0⟩):=aa (HVV.o.2 rfl);go_enter func344,ntmps344
  go_wp2_with fail
  refine(Gz (b0.toNat:Int) _).mono ?_;rintro e w1 ⟨A,c,rfl,-,hb⟩;unfold Hp;rw[HR.o];have R1:=aa (R0.o.below hb R0.o.lt);have P1:=aa (P0.o.below hb P0.o.lt);have B1:=aa (B0.o.trans (hb.mono B0.o.size));clear hb
  obtain⟨⟨r0,r1,r2,r3⟩,s0,s1,s2,s3⟩:=R1.o.four;obtain⟨⟨c0,c1,c2,c3⟩,f0,f1,f2,f3⟩:=P1.o.four
  go_wp2_with fail
  refine(QQ s 1 1 rfl 5 _ HA.o hs).mono ?_;rintro e w2 ⟨rfl,rfl⟩;rw[HTX.o];simp only;have R3:=aa (R1.o.other (p:=⟨w.heap.size+1,2,none⟩) (by simp) (.string T));have B3:=aa (B1.o.setCell (show w.heap.size<=(⟨w.heap.size+1,2,none⟩:Addr).block by simp) (.string T));go_wp2;refine av (QA rfl _ rfl R3.o.put_four) rfl ?_;exact QO HV.o (cD B3.o (ac _) _ _ _ _)
theorem TZ(s:ByteArray)(b0:UInt8)(h:0<s.size)(hb0:s[0]=b0)(hsh:gH (b0.toNat:Int)=6)(w:World)(hs:s.size<=4611686018427387904):
  Calls prog 344 #[.string s] w (QT s 6 (b0.toNat:Int) w):=by
 have h0:(0:Int)<(s.size:Int):=by omega
 obtain⟨sh',ki,le,mo,hR⟩:∃sh ki le mo,cr (b0.toNat:Int)=⟨sh,ki,le,mo⟩:=⟨_,_,_,_,rfl⟩;have hs':sh'=6:=by
  have:(cr (b0.toNat:Int)).shape=6:=hsh;rw[hR]at this;exact this
 subst hs';have HR:=aa hR;clear hsh hR;have hw0:IntKind.i64.wrap (b0.toNat:Int)=(b0.toNat:Int):=by rw[aQ];have:=b0.toNat_lt;omega
 have R0:=aa ((Bk.fresh w PrT #[.int .i64 0,.int .u32 0,.string ⟨#[]⟩,.string ⟨#[]⟩]).alloc (.cells #[.int .i64 (b0.toNat:Int),.int .u32 0,.string ⟨#[]⟩,.string ⟨#[]⟩] PrT));have P0:=aa (Bk.fresh (w.alloc (.cells #[.int .i64 0,.int .u32 0,.string ⟨#[]⟩,.string ⟨#[]⟩] PrT)) PrT #[.int .i64 (b0.toNat:Int),.int .u32 0,.string ⟨#[]⟩,.string ⟨#[]⟩]);rw[bi]at P0;have B0:=aa (((aq w.heap.size w).alloc (ac _) (.cells #[.int .i64 0,.int .u32 0,.string ⟨#[]⟩,.string ⟨#[]⟩] PrT)).alloc (by simp) (.cells #[.int .i64 (b0.toNat:Int),.int .u32 0,.string ⟨#[]⟩,.string ⟨#[]⟩] PrT));have HA:Hid (1<=s.size):=aa h;have HAT:Hid ((txS s 1 6).2.2=0->(txS s 1 6).2.1<=s.size):=aa (Tn (sh:=6) h);have HVV:Hid ((dW 6 s 1).err=(txS s 1 6).2.2/\((txS s 1 6).2.2=0->dW 6 s 1=⟨0,(txS s 1 6).1,⟨#[]⟩,(txS s 1 6).2.1,0⟩)):=aa (by
  have hh:=Um (s:=s) (a:=1);refine⟨hh.1,fun h0=>?_⟩;show(⟨0,(dH s 1 0).1,⟨#[]⟩,(dH s 1 0).2.1,(dH s 1 0).2.2⟩:VRead)=_;rw[hh.2 h0])
 obtain⟨T,N,F,hTX⟩:∃T N F,txS s 1 6=(T,N,F):=⟨_,_,_,rfl⟩;rw[hTX]at HVV HAT;have HTX:=aa hTX;clear hTX
 by_cases hF:F=0
 rotate_left
 ·have HV:Hid ((dW 6 s 1).err=F):=aa HVV.o.1;have e0:(F==0)=false:=ar.2 hF;have HF:=aa hF;clear hF;go_enter func344,ntmps344
  go_wp2_with fail
  refine(Gz (b0.toNat:Int) _).mono ?_;rintro e w1 ⟨A,c,rfl,-,hb⟩;unfold Hp;rw[HR.o];have R1:=aa (R0.o.below hb R0.o.lt);have P1:=aa (P0.o.below hb P0.o.lt);have B1:=aa (B0.o.trans (hb.mono B0.o.size));clear hb
  obtain⟨⟨r0,r1,r2,r3⟩,s0,s1,s2,s3⟩:=R1.o.four;obtain⟨⟨c0,c1,c2,c3⟩,f0,f1,f2,f3⟩:=P1.o.four
  go_wp2_with fail
  refine(QQ s 1 1 rfl 6 _ HA.o hs).mono ?_;rintro e w2 ⟨rfl,rfl⟩;rw[HTX.o];simp only;have R3:=aa (R1.o.other (p:=⟨w.heap.size+1,2,none⟩) (by simp) (.string T));have B3:=aa (B1.o.setCell (show w.heap.size<=(⟨w.heap.size+1,2,none⟩:Addr).block by simp) (.string T));go_wp2;refine av (QA rfl _ rfl R3.o.put_four) rfl ?_;exact QG (n:=0) HV.o HF.o (cD B3.o (ac _) _ _ _ _)
 ·subst hF;have HV:Hid (dW 6 s 1=⟨0,T,⟨#[]⟩,N,0⟩):=aa (HVV.o.2 rfl);go_enter func344,ntmps344
  go_wp2_with fail
  refine(Gz (b0.toNat:Int) _).mono ?_;rintro e w1 ⟨A,c,rfl,-,hb⟩;unfold Hp;rw[HR.o];have R1:=aa (R0.o.below hb R0.o.lt);have P1:=aa (P0.o.below hb P0.o.lt);have B1:=aa (B0.o.trans (hb.mono B0.o.size));clear hb
  obtain⟨⟨r0,r1,r2,r3⟩,s0,s1,s2,s3⟩:=R1.o.four;obtain⟨⟨c0,c1,c2,c3⟩,f0,f1,f2,f3⟩:=P1.o.four
  go_wp2_with fail
  refine(QQ s 1 1 rfl 6 _ HA.o hs).mono ?_;rintro e w2 ⟨rfl,rfl⟩;rw[HTX.o];simp only;have R3:=aa (R1.o.other (p:=⟨w.heap.size+1,2,none⟩) (by simp) (.string T));have B3:=aa (B1.o.setCell (show w.heap.size<=(⟨w.heap.size+1,2,none⟩:Addr).block by simp) (.string T));go_wp2;refine av (QA rfl _ rfl R3.o.put_four) rfl ?_;exact QO HV.o (cD B3.o (ac _) _ _ _ _)
theorem TY(s:ByteArray)(b0:UInt8)(h:0<s.size)(hb0:s[0]=b0)(hsh:gH (b0.toNat:Int)=7)(w:World)(hs:s.size<=4611686018427387904):
  Calls prog 344 #[.string s] w (QT s 7 (b0.toNat:Int) w):=by
 have h0:(0:Int)<(s.size:Int):=by omega
 obtain⟨sh',ki,le,mo,hR⟩:∃sh ki le mo,cr (b0.toNat:Int)=⟨sh,ki,le,mo⟩:=⟨_,_,_,_,rfl⟩;have hs':sh'=7:=by
  have:(cr (b0.toNat:Int)).shape=7:=hsh;rw[hR]at this;exact this
 subst hs';have HR:=aa hR;clear hsh hR;have hw0:IntKind.i64.wrap (b0.toNat:Int)=(b0.toNat:Int):=by rw[aQ];have:=b0.toNat_lt;omega
 have R0:=aa ((Bk.fresh w PrT #[.int .i64 0,.int .u32 0,.string ⟨#[]⟩,.string ⟨#[]⟩]).alloc (.cells #[.int .i64 (b0.toNat:Int),.int .u32 0,.string ⟨#[]⟩,.string ⟨#[]⟩] PrT));have P0:=aa (Bk.fresh (w.alloc (.cells #[.int .i64 0,.int .u32 0,.string ⟨#[]⟩,.string ⟨#[]⟩] PrT)) PrT #[.int .i64 (b0.toNat:Int),.int .u32 0,.string ⟨#[]⟩,.string ⟨#[]⟩]);rw[bi]at P0;have B0:=aa (((aq w.heap.size w).alloc (ac _) (.cells #[.int .i64 0,.int .u32 0,.string ⟨#[]⟩,.string ⟨#[]⟩] PrT)).alloc (by simp) (.cells #[.int .i64 (b0.toNat:Int),.int .u32 0,.string ⟨#[]⟩,.string ⟨#[]⟩] PrT));have HA:Hid (1<=s.size):=aa h;have HAT:Hid ((txS s 1 7).2.2=0->(txS s 1 7).2.1<=s.size):=aa (Tn (sh:=7) h);have HVV:Hid ((dW 7 s 1).err=(if(txS s 1 7).2.2=0 then(txS s (txS s 1 7).2.1 7).2.2 else(txS s 1 7).2.2)/\((txS s 1 7).2.2=0->(txS s (txS s 1 7).2.1 7).2.2=0->dW 7 s 1=⟨0,(txS s 1 7).1,(txS s (txS s 1 7).2.1 7).1,(txS s (txS s 1 7).2.1 7).2.1,0⟩)):=aa (by
  have hh:=Tm (s:=s) (a:=1) (sh:=7) (by decide);have hk:=Tm (s:=s) (a:=(txS s 1 7).2.1) (sh:=7) (by decide);refine⟨?_,fun h0 h1=>?_⟩
  ·show(dd s (dd s 1 0).2.1 (dd s 1 0).2.2).2.2=_
   by_cases h0:(txS s 1 7).2.2=0
   ·rw[if_pos h0,hh.2 h0];exact hk.1
   ·rw[ae h0,yT (by rw[hh.1];exact h0),hh.1]
  ·show(⟨0,(dd s 1 0).1,(dd s (dd s 1 0).2.1 (dd s 1 0).2.2).1,(dd s (dd s 1 0).2.1 (dd s 1 0).2.2).2.1,(dd s (dd s 1 0).2.1 (dd s 1 0).2.2).2.2⟩:VRead)=_;rw[hh.2 h0];simp only;rw[hk.2 h1])
 obtain⟨T,N,F,hTX⟩:∃T N F,txS s 1 7=(T,N,F):=⟨_,_,_,rfl⟩;rw[hTX]at HVV HAT;simp only at HVV HAT;have HTX:=aa hTX;clear hTX
 by_cases hF:F=0
 rotate_left
 ·have HV:Hid ((dW 7 s 1).err=F):=aa (by rw[HVV.o.1,ae hF]);have e0:(F==0)=false:=ar.2 hF;have HF:=aa hF;clear hF;go_enter func344,ntmps344
  go_wp2_with fail
  refine(Gz (b0.toNat:Int) _).mono ?_;rintro e w1 ⟨A,c,rfl,-,hb⟩;unfold Hp;rw[HR.o];have R1:=aa (R0.o.below hb R0.o.lt);have P1:=aa (P0.o.below hb P0.o.lt);have B1:=aa (B0.o.trans (hb.mono B0.o.size));clear hb
  obtain⟨⟨r0,r1,r2,r3⟩,s0,s1,s2,s3⟩:=R1.o.four;obtain⟨⟨c0,c1,c2,c3⟩,f0,f1,f2,f3⟩:=P1.o.four
  go_wp2_with fail
  refine(QQ s 1 1 rfl 7 _ HA.o hs).mono ?_;rintro e w2 ⟨rfl,rfl⟩;rw[HTX.o];simp only;have R3:=aa (R1.o.other (p:=⟨w.heap.size+1,2,none⟩) (by simp) (.string T));have B3:=aa (B1.o.setCell (show w.heap.size<=(⟨w.heap.size+1,2,none⟩:Addr).block by simp) (.string T));go_wp2;refine av (QA rfl _ rfl R3.o.put_four) rfl ?_;exact QG (n:=0) HV.o HF.o (cD B3.o (ac _) _ _ _ _)
 subst hF;have HNL:Hid (N<=s.size):=aa (HAT.o rfl);have HVW:=aa (And.intro (HVV.o.1.trans (if_pos rfl)) (HVV.o.2 rfl));obtain⟨T2,N2,F2,hTX2⟩:∃T N' F,txS s N 7=(T,N',F):=⟨_,_,_,rfl⟩;rw[hTX2]at HVW;simp only at HVW;have HTX2:=aa hTX2;clear hTX2 HVV HAT
 have HVE:=aa HVW.o.1;have R3:∀x,Bk x w.heap.size PrT #[.int .i64 0,.int .u32 0,.string ⟨#[]⟩,.string ⟨#[]⟩]->Bk ((x.setCell ⟨w.heap.size+1,2,none⟩ (.string T)).setCell ⟨w.heap.size+1,3,none⟩ (.string T2)) w.heap.size PrT #[.int .i64 0,.int .u32 0,.string ⟨#[]⟩,.string ⟨#[]⟩]:=fun x hx=>(hx.other (p:=⟨w.heap.size+1,2,none⟩) (by simp) _).other (p:=⟨w.heap.size+1,3,none⟩) (by simp) _;have B3:∀x,Below w.heap.size w x->Below w.heap.size w ((x.setCell ⟨w.heap.size+1,2,none⟩ (.string T)).setCell ⟨w.heap.size+1,3,none⟩ (.string T2)):=fun x hx=>(hx.setCell (show w.heap.size<=(⟨w.heap.size+1,2,none⟩:Addr).block by simp) _).setCell (show w.heap.size<=(⟨w.heap.size+1,3,none⟩:Addr).block by simp) _;have HR3:=aa R3;have HB3:=aa B3
 clear R3 B3;go_enter func344,ntmps344
 go_wp2_with fail
 refine(Gz (b0.toNat:Int) _).mono ?_;rintro e w1 ⟨A,c,rfl,-,hb⟩;unfold Hp;rw[HR.o];have R1:=aa (R0.o.below hb R0.o.lt);have P1:=aa (P0.o.below hb P0.o.lt);have B1:=aa (B0.o.trans (hb.mono B0.o.size));clear hb
 obtain⟨⟨r0,r1,r2,r3⟩,s0,s1,s2,s3⟩:=R1.o.four;obtain⟨⟨c0,c1,c2,c3⟩,f0,f1,f2,f3⟩:=P1.o.four
 go_wp2_with fail
 refine(QQ s 1 1 rfl 7 _ HA.o hs).mono ?_;rintro e w2 ⟨rfl,rfl⟩;rw[HTX.o];simp only
 go_wp2_with fail
 refine(QQ s N N rfl 7 _ HNL.o hs).mono ?_;rintro e w2 ⟨rfl,rfl⟩;rw[HTX2.o];simp only;have R4:=aa (HR3.o _ R1.o);have B4:=aa (HB3.o _ B1.o);go_wp2;refine av (QA rfl _ rfl R4.o.put_four) rfl ?_
 by_cases hF:F2=0
 ·subst hF;exact QO (HVW.o.2 rfl) (cD B4.o (ac _) _ _ _ _)
 ·exact QG (n:=0) HVE.o hF (cD B4.o (ac _) _ _ _ _)
theorem Sz(s:ByteArray)(b0:UInt8)(h:0<s.size)(hb0:s[0]=b0)(sh:Nat)(hsh:gH (b0.toNat:Int)=sh)(h1:1<=sh)(h7:sh<=7)(w:World)(hs:s.size<=4611686018427387904):
  Calls prog 344 #[.string s] w (QT s sh (b0.toNat:Int) w):=by
 obtain rfl| rfl| rfl| rfl| rfl| rfl| rfl:sh=1\/sh=2\/sh=3\/sh=4\/sh=5\/sh=6\/sh=7:=by omega
 ·exact Ue s b0 h hb0 hsh w hs
 ·exact Ud s b0 h hb0 hsh w hs
 ·exact Uc s b0 h hb0 hsh w hs
 ·exact Ub s b0 h hb0 hsh w hs
 ·exact Ua s b0 h hb0 hsh w hs
 ·exact TZ s b0 h hb0 hsh w hs
 ·exact TY s b0 h hb0 hsh w hs
end
section
theorem Iu{T:ByteArray}{a:Nat}(ha:a<=T.size)(b:Nat)(e n:Int):bp T (a+b) e n=((bp (T.extract a T.size) b e n).1,a+(bp (T.extract a T.size) b e n).2.1,(bp (T.extract a T.size) b e n).2.2):=by
 have hz:((T.extract a T.size).size:Int)=(T.size:Int) - a:=by rw[aj];omega
 have hh:jQ T (a+b) n=jQ (T.extract a T.size) b n:=by
  unfold jQ;rw[hz]
  congr 1
  exact eb.2 (by omega)
 unfold bp;rw[hh]
 by_cases he:e=0
 ·rw[if_pos he,if_pos he]
  by_cases hc:jQ (T.extract a T.size) b n=true
  ·have h2:0<=n/\n<=((T.extract a T.size).size:Int) - b:=by simpa [jQ]using hc
   rw[if_pos hc,if_pos hc,Qp (by omega)];simp only[bG,Hj];exact⟨by rw[Nat.add_assoc],by omega⟩
  ·rw[ae hc,ae hc]
 ·rw[ae he,ae he]
theorem Ku{T:ByteArray}{a:Nat}(ha:a<=T.size)(b:Nat)(e:Int):dH T (a+b) e=((dH (T.extract a T.size) b e).1,a+(dH (T.extract a T.size) b e).2.1,(dH (T.extract a T.size) b e).2.2):=by
 unfold dH;rw[Iu ha b e 2];simp only;rw[Iu ha]
theorem Jq{T:ByteArray}{a:Nat}(ha:a<=T.size)(b:Nat)(e:Int):dd T (a+b) e=((dd (T.extract a T.size) b e).1,a+(dd (T.extract a T.size) b e).2.1,(dd (T.extract a T.size) b e).2.2):=by
 unfold dd;rw[Ku ha]
theorem Mq{T:ByteArray}{a:Nat}(ha:a<=T.size)(b:Nat)(e:Int):jJ T (a+b) e=((jJ (T.extract a T.size) b e).1,a+(jJ (T.extract a T.size) b e).2.1,(jJ (T.extract a T.size) b e).2.2):=by
 unfold jJ;rw[Jq ha b e];simp only;rw[Jq ha]
theorem MW{T:ByteArray}{a:Nat}(b:Nat):mz T (a+b)=((mz (T.extract a T.size) b).1,a+(mz (T.extract a T.size) b).2.1,(mz (T.extract a T.size) b).2.2):=by
 unfold mz;rw[ju,et];split
 ·simp only[Nat.add_assoc]
 ·rfl
theorem MX{T:ByteArray}{a:Nat}(ha:a<=T.size)(sh b:Nat):dW sh T (a+b)= {dW sh (T.extract a T.size) b with at_:=a+(dW sh (T.extract a T.size) b).at_}:=by
 unfold dW;rw[Iu ha b 0 1,Iu ha b 0 2,Iu ha b 0 4,MW,Jq ha,Ku ha,Mq ha]
 repeat' split
 all_goals rfl
structure LAt (kind:Int) (T:ByteArray) (m a:Nat) (out:List Pr):Prop where
 le:a<=T.size
 lt:T.size<a+m
 ck:ckL kind out
 len:out.length<=1000
 eq:fq kind T=iy kind T m a (Jx out) out
theorem LAt.start(kind:Int)(T:ByteArray):LAt kind T (T.size+1) 0 []:=⟨by omega,by omega,by simp[ckL],ag _,rfl⟩
section
variable {kind:Int} {T:ByteArray} {m a sh:Nat} {out:List Pr} {b0:UInt8}
theorem LAt.done(v:LAt kind T m a out)(h:¬a<T.size):fq kind T=if Kn out=true then([],9)else(out,0):=by
 obtain⟨k,rfl⟩:∃k,m=k+1:=⟨m- 1,by have:=v.lt;have:=v.le;omega⟩;have h':T.size<=a:=by omega
 rw[v.eq,iy,if_pos h',LV]
theorem TJ(h:a<T.size)(hx:0<(T.extract a T.size).size)(hb:(T.extract a T.size)[0]=b0):fa T a=b0.toNat:=by
 refine(xd (rest:=(ls T).drop (a+1)) ?_).1;have hl:a<(ls T).length:=by rw[aN];exact h
 rw[bQ hl]
 congr 1
 rw[<-hb];rw[<-uY (T.extract a T.size) 0 hx];simp only[ju];simp
structure Rnd (kind:Int) (T:ByteArray) (m a:Nat) (out:List Pr) (b0:UInt8) (sh:Nat):Prop where
 at_:LAt kind T m a out
 lt:a<T.size
 id:fa T a=b0.toNat
 shape:gH (b0.toNat:Int)=sh
def rdQ(sh:Nat)(b0:UInt8)(X:ByteArray):Pr:=⟨b0.toNat,(dW sh X 1).n,(dW sh X 1).text,(dW sh X 1).value⟩
theorem Rnd.go(r:Rnd kind T m a out b0 sh):∃k,m=k+1/\fq kind T=(if ng (cr (b0.toNat:Int)) kind=false then([],9)
  else if(dW sh (T.extract a T.size) 1).err≠0 then([],(dW sh (T.extract a T.size) 1).err)
  else if de (cr (rdQ sh b0 (T.extract a T.size)).id) kind (rdQ sh b0 (T.extract a T.size))≠0 then([],de (cr (rdQ sh b0 (T.extract a T.size)).id) kind (rdQ sh b0 (T.extract a T.size)))
  else if iC (Jx out) kind b0.toNat=true then([],9)else if out.length=1000 then([],4)
  else iy kind T k (a+(dW sh (T.extract a T.size) 1).at_) (upd (Jx out) b0.toNat (Jx out b0.toNat+1)) (out++[rdQ sh b0 (T.extract a T.size)])):=by
 obtain⟨k,rfl⟩:∃k,m=k+1:=⟨m- 1,by have:=r.at_.lt;have:=r.lt;omega⟩;refine⟨k,rfl,?_⟩;rw[r.at_.eq,iy,ae (by have:=r.lt;omega)];have hs:(cr ((fa T a:Nat):Int)).shape=sh:=by rw[r.id];exact r.shape
 have hv:=MX (T:=T) (a:=a) r.at_.le sh 1;rw[hs,hv,r.id];rfl
theorem Rnd.no(r:Rnd kind T m a out b0 sh)(h:Jv kind (b0.toNat:Int)=false):fq kind T=([],9):=by
 obtain⟨k,-,he⟩:=r.go;rw[he,if_pos (show ng (cr (b0.toNat:Int)) kind=false from h)]
theorem Rnd.err(r:Rnd kind T m a out b0 sh)(h:Jv kind (b0.toNat:Int)=true)(h1:(dW sh (T.extract a T.size) 1).err≠0):fq kind T=([],(dW sh (T.extract a T.size) 1).err):=by
 obtain⟨k,-,he⟩:=r.go;rw[he,ae (fun x=>by rw[show ng _ kind=true from h]at x;cases x),if_pos h1]
theorem Rnd.bad(r:Rnd kind T m a out b0 sh)(h:Jv kind (b0.toNat:Int)=true)(h1:(dW sh (T.extract a T.size) 1).err=0){q:Pr}(hq:rdQ sh b0 (T.extract a T.size)=q)(h2:de (cr q.id) kind q≠0):fq kind T=([],de (cr q.id) kind q):=by
 obtain⟨k,-,he⟩:=r.go;subst hq;rw[he,ae (fun x=>by rw[show ng _ kind=true from h]at x;cases x),ae (by simpa using h1),if_pos h2]
theorem Rnd.twice(r:Rnd kind T m a out b0 sh)(h:Jv kind (b0.toNat:Int)=true)(h1:(dW sh (T.extract a T.size) 1).err=0){q:Pr}(hq:rdQ sh b0 (T.extract a T.size)=q)(h2:de (cr q.id) kind q=0)(h3:twB kind out q.id=true):fq kind T=([],9):=by
 obtain⟨k,-,he⟩:=r.go;rw[Jy r.at_.ck h2]at h3;subst hq;rw[he,ae (fun x=>by rw[show ng _ kind=true from h]at x;cases x),ae (by simpa using h1),ae (by simpa using h2)];rw[show iC (Jx out) kind b0.toNat=true from h3];rfl
theorem Rnd.rest(r:Rnd kind T m a out b0 sh)(h:Jv kind (b0.toNat:Int)=true)(h1:(dW sh (T.extract a T.size) 1).err=0){q:Pr}(hq:rdQ sh b0 (T.extract a T.size)=q)(h2:de (cr q.id) kind q=0)(h3:twB kind out q.id=false):
  (out.length=1000->fq kind T=([],4))/\(out.length≠1000->∃k,LAt kind T k (a+(dW sh (T.extract a T.size) 1).at_) (out++[q])):=by
 obtain⟨k,hk,he⟩:=r.go;rw[Jy r.at_.ck h2]at h3;subst hq;rw[ae (fun x=>by rw[show ng _ kind=true from h]at x;cases x),ae (by simpa using h1),ae (by simpa using h2)]at he;rw[show iC (Jx out) kind b0.toNat=false from h3]at he;rw[ae (by simp)]at he;refine⟨fun h4=>by rw[he,if_pos h4],fun h4=>⟨k,?_,?_,?_,?_,?_⟩⟩
 ·have:=(xO (t:=T.extract a T.size) (a:=1) (by rw[aj];have:=r.lt;omega) sh).2;rw[aj]at this;have:=r.lt;omega
 ·have:=(xO (t:=T.extract a T.size) (a:=1) (by rw[aj];have:=r.lt;omega) sh).1;have:=r.at_.lt;omega
 ·refine Kv.2 ⟨r.at_.ck,?_⟩;intro q hq;rw[gA.1 hq];exact h2
 ·rw[List.length_append];have:=r.at_.len;simp only[qU];omega
 ·rw[he,ae h4];rw[<-Lh out (rdQ sh b0 (T.extract a T.size))];rfl
end
end
def Uj:Value->Nat
 | .string s=>s.size
 | _=>0
theorem SW{kind:Int}{s T:ByteArray}{N K:Nat}(hr:bm (ls s)=(N,K,0))(hl:K+N<=s.size)(hT:s.extract K (K+N)=T){r:List Pr×Int}(h:fq kind T=r):aZ kind s=if r.2≠0 then([],0,r.2)else(r.1,K+N,0):=by
 subst hT h;unfold aZ;rw[hr];rw[ae (by simp),ae (by simp only;omega)]
theorem Tu{w:World}{base n:Nat}{v:Value}{l:List Pr}(h:w.ownsRow base 102 4 v n (prs l)):∃A c,v= .slice A n c/\n<=c/\Rd w w.heap.size 4 A n (prs l):=jK h
theorem Sk(kind:Int)(s:ByteArray)(w:World)(hs:s.size<=140737488351232):
  Calls prog 283 #[.int .i64 kind,.string s] w (yQ (aZ kind s) w):=by
 obtain⟨N,K,F,hR⟩:∃N K F,bm (ls s)=(N,K,F):=⟨_,_,_,rfl⟩;have HR:=aa hR
 by_cases hF:F=0
 rotate_left
 ·have HX:Hid (aZ kind s=([],0,F)):=aa (by unfold aZ;rw[hR,if_pos hF]);have e0:(F !=0)=true:=aA.2 hF;clear hR hF;go_enter func283,ntmps283
  go_wp2_with fail
  refine(QM s _ (by omega)).mono ?_;rintro e w1 ⟨rfl,rfl⟩;rw[HR.o];simp only;go_wp2;go_ret3;exact ll HX.o (aq _ _)
 subst hF;have hNK:N<=268435455/\K<=4:=by
  obtain⟨-,h2,h3⟩:=mE hR;refine⟨h3,?_⟩;rw[h2,LG];split;omega;split;omega;split;omega;omega
 by_cases hl:K+N<=s.size
 rotate_left
 ·have HX:Hid (aZ kind s=([],0,3)):=aa (by unfold aZ;rw[hR,ae (by simp),if_pos (by simp only;omega)]);have w0:IntKind.i64.wrap ((s.size:Int) - (K:Int))=(s.size:Int) - (K:Int):=by rw[aQ];omega
  have d0:decide ((s.size:Int) - (K:Int)<(N:Int))=true:=au (by omega);clear hR hl hNK;go_enter func283,ntmps283
  go_wp2_with fail
  refine(QM s _ (by omega)).mono ?_;rintro e w1 ⟨rfl,rfl⟩;rw[HR.o];simp only;go_wp2;go_ret3;exact ll HX.o (aq _ _)
 obtain⟨T,hT⟩:∃T,s.extract K (K+N)=T:=⟨_,rfl⟩;have hTs:T.size<=140737488351232:=by rw[<-hT,aj];omega
 have HW:=aa (fun r=>SW (kind:=kind) (r:=r) hR hl hT);have HTS:=aa hTs;have HKN:Hid (((K+N:Nat):Int)=(K:Int)+(N:Int)):=aa (by omega);have w0:IntKind.i64.wrap ((s.size:Int) - (K:Int))=(s.size:Int) - (K:Int):=by rw[aQ];omega
 have w2:IntKind.i64.wrap ((K:Int)+(N:Int))=(K:Int)+(N:Int):=by rw[aQ];omega
 have d0:decide ((s.size:Int) - (K:Int)<(N:Int))=false:=ah (by omega);have i1:(0:Int)<=(K:Int):=by omega
 have i2:(K:Int)<=(K:Int)+(N:Int):=by omega
 have i3:(K:Int)+(N:Int)<=(s.size:Int):=by omega
 have hcut:s.extract K (K+N)=T:=hT;have i4:((K:Int)+(N:Int)).toNat=K+N:=by omega
 have HT0:Hid (T.extract 0 T.size=T):=aa (by simp);clear hR hl hNK hT hTs;go_enter func283,ntmps283
 go_wp2_with fail
 refine(QM s _ (by omega)).mono ?_;rintro e w1 ⟨rfl,rfl⟩;rw[HR.o];simp only;go_wp2
 go_loopw [10,11] (fun out left wr=>∃(m a:Nat) (o:List Pr),LAt kind T m a o/\left= .string (T.extract a T.size)/\wr.ownsRow w.heap.size 102 4 out o.length (prs o)/\Below w.heap.size w wr) (fun _ left _=>Uj left)
 case atStart=>exact⟨T.size+1,0,[],LAt.start kind T,by rw[HT0.o],dD _ _ _ _,aq _ _⟩
 case round=>
  obtain⟨m,a,o,hat,rfl,hown,hbel⟩:=hrel;have HA:=aa hat;have HO:=aa hown;have HB:=aa hbel
  clear hat hown hbel
  by_cases hlt:a<T.size
  rotate_left
  ·obtain⟨A,c,rfl,hc,hrd⟩:=Tu HO.o;have HRD:=aa hrd;have HC:=aa hc
   have HX:=aa (HW.o _ (HA.o.done hlt));have he:(T.extract a T.size).toList.isEmpty=true:=by rw[kR];exact au (by rw[aj];omega)
   have HL:=aa HA.o.len;clear hrd hc hlt hcut;generalize T.extract a T.size=X at*;cases hlo:Kn o
   ·rw[hlo]at HX;have HLO:=aa hlo;clear hlo
    go_wp2_with fail
    refine(JN o o.length rfl A c _ HRD.o (by have:=HL.o;omega)).mono ?_;rintro e w3 ⟨rfl,hb⟩;rw[HLO.o];have HB1:=aa (HB.o.trans (hb.mono HB.o.size));have HRD1:=aa ((HRD.o.below hb).wider hb.size);clear hb
    go_wp2;go_ret3;exact⟨A,c,by rw[HX.o];(try dsimp only);rfl,by rw[HX.o];exact HC.o,by rw[HX.o];exact HRD1.o,HB1.o⟩
   ·rw[hlo]at HX;have HLO:=aa hlo;clear hlo
    go_wp2_with fail
    refine(JN o o.length rfl A c _ HRD.o (by have:=HL.o;omega)).mono ?_;rintro e w3 ⟨rfl,hb⟩;rw[HLO.o];have HB1:=aa (HB.o.trans (hb.mono HB.o.size));clear hb
    go_wp2;go_ret3;exact ll HX.o HB1.o
  obtain⟨X,hX⟩:∃X,T.extract a T.size=X:=⟨_,rfl⟩;have hxs:X.size=T.size- a:=by rw[<-hX,aj];omega
  have hx0:0<X.size:=by omega
  have HCU:Hid (∀k,X.extract k X.size=T.extract (a+k) T.size):=aa (fun k=>by
   rw[hxs,<-hX,Qp (by omega),show a+(T.size- a)=T.size by omega])
  obtain⟨b0,hb0⟩:∃b0,X[0]=b0:=⟨_,rfl⟩;have HB0:=aa (show X[0]=b0 from hb0);have HID:Hid (fa T a=b0.toNat):=aa (TJ hlt (by rw[hX];exact hx0) (by subst hX;exact hb0));obtain⟨sh,hsh⟩:∃sh,gH (b0.toNat:Int)=sh:=⟨_,rfl⟩;have RN:=aa (show Rnd kind T m a o b0 sh from⟨HA.o,hlt,HID.o,hsh⟩);have HSH:=aa hsh;have hne:X.toList.isEmpty=false:=by rw[kR];exact ah (by omega)
  have hx0':(0:Int)<(X.size:Int):=by omega
  have HXT:Hid (X.size<=140737488351232):=aa (by have:=HTS.o;omega);have hw0:IntKind.i64.wrap (b0.toNat:Int)=(b0.toNat:Int):=by rw[aQ];have:=b0.toNat_lt;omega
  have HVA:=aa (xO (t:=X) (a:=1) hx0 sh);have HVO:=aa (xN (t:=X) (a:=1) HXT.o sh);have HXE:=aa hX;have HX0:=aa hx0;rw[hX];clear hsh hlt hxs hX hcut;cases hmay:Jv kind (b0.toNat:Int)
  ·have HX:=aa (HW.o _ (RN.o.no hmay));have HM:=aa hmay;clear hmay
   go_wp2_with fail
   refine(Bc kind (b0.toNat:Int) _).mono ?_;rintro e w3 ⟨rfl,hb⟩;rw[HM.o];have HB1:=aa (HB.o.trans (hb.mono HB.o.size));clear hb
   go_wp2;go_ret3;exact ll HX.o HB1.o
  have HM:=aa hmay;clear hmay
  have HS17:=aa (sI (id:=(b0.toNat:Int)) rfl (show ng _ kind=true from HM.o))
  go_wp2_with fail
  refine(Bc kind (b0.toNat:Int) _).mono ?_;rintro e w3 ⟨rfl,hb⟩;rw[HM.o];have HB1:=aa (HB.o.trans (hb.mono HB.o.size));have HO1:=aa (dV HO.o hb);clear hb
  go_wp2_with fail
  refine(Sz X b0 HX0.o HB0.o sh HSH.o (by rw[<-HSH.o];exact HS17.o.1) (by rw[<-HSH.o];exact HS17.o.2) _ (by have:=HXT.o;omega)).mono ?_;rintro e w4 ⟨P,k,rfl,hok,hb⟩;have HB2:=aa (HB1.o.trans (hb.mono HB1.o.size));have HO2:=aa (dV HO1.o hb)
  have HOK:=aa hok;clear hb hok
  by_cases herr:(dW sh X 1).err=0
  rotate_left
  ·have hx:=HW.o _ (RN.o.err HM.o (by rw[HXE.o];exact herr));rw[HXE.o,if_pos herr]at hx;have HX:=aa hx;obtain⟨E,hE⟩:∃E,(dW sh X 1).err=E:=⟨_,rfl⟩;rw[hE]at herr HX⊢;have e0:(E==0)=false:=ar.2 herr;have e1:(E !=0)=true:=aA.2 herr;have HB3:=aa (HB2.o.alloc HB2.o.size (.cells #[.int .i64 P.id,.int .u32 P.n,.string P.text,.string P.value] 102));clear herr hx hE HOK;unfold Pr.val;go_wp2;go_ret3;exact ll HX.o HB3.o
  obtain⟨rfl,rfl⟩:=HOK.o herr;obtain⟨vn,vt,vv,va,hV⟩:∃vn vt vv va,dW sh X 1=⟨vn,vt,vv,va,0⟩:=⟨_,_,_,_,by rw[<-herr]⟩;have RQ:Hid (rdQ sh b0 (T.extract a T.size)=⟨b0.toNat,vn,vt,vv⟩):=aa (by rw[HXE.o];unfold rdQ;rw[hV]);have HERR:Hid ((dW sh (T.extract a T.size) 1).err=0):=aa (by rw[HXE.o];exact herr);have HAT:Hid ((dW sh (T.extract a T.size) 1).at_=va):=aa (by rw[HXE.o,hV]);rw[hV]at HVA HVO⊢;clear hV herr HOK;simp only at HVA HVO⊢;have HPOK:Hid (Pr.Ok ⟨b0.toNat,vn,vt,vv⟩):=aa (rU HVO.o);have HP3:=aa (Bk.fresh w4 102 #[.int .i64 (b0.toNat:Int),.int .u32 vn,.string vt,.string vv]);have HB3:=aa (HB2.o.alloc HB2.o.size (.cells #[.int .i64 (b0.toNat:Int),.int .u32 vn,.string vt,.string vv] 102));have HO3:=aa (HO2.o.alloc (.cells #[.int .i64 (b0.toNat:Int),.int .u32 vn,.string vt,.string vv] 102));unfold Pr.val
  by_cases hck:de (cr (b0.toNat:Int)) kind ⟨b0.toNat,vn,vt,vv⟩=0
  rotate_left
  ·have hx:=HW.o _ (RN.o.bad HM.o HERR.o RQ.o hck);simp only at hx;rw[if_pos hck]at hx;have HX:=aa hx;obtain⟨E,hE⟩:∃E,de (cr (b0.toNat:Int)) kind ⟨b0.toNat,vn,vt,vv⟩=E:=⟨_,rfl⟩;rw[hE]at hck HX;have HE:=aa hE;have e0:(E==0)=false:=ar.2 hck;have e1:(E !=0)=true:=aA.2 hck;clear hck hx hE
   go_wp2_with fail
   refine(Jp kind ⟨b0.toNat,vn,vt,vv⟩ HPOK.o _).mono ?_;rintro e w5 ⟨rfl,hb⟩;rw[HE.o];have HB4:=aa (HB3.o.trans (hb.mono HB3.o.size));clear hb
   go_wp2;go_ret3;exact ll HX.o HB4.o
  have HCK:=aa hck;clear hck
  go_wp2_with fail
  refine(Jp kind ⟨b0.toNat,vn,vt,vv⟩ HPOK.o _).mono ?_;rintro e w5 ⟨rfl,hb⟩;rw[HCK.o];have HB4:=aa (HB3.o.trans (hb.mono HB3.o.size));have HO4:=aa (dV HO3.o hb);have HP4:=aa (HP3.o.below hb HP3.o.lt);clear hb
  obtain⟨⟨c0,c1,c2,c3⟩,f0,f1,f2,f3⟩:=HP4.o.four;obtain⟨A,c,rfl,hc,hrd⟩:=Tu HO4.o;have HRD:=aa hrd;have HC:=aa hc;have HLEN:=aa HA.o.len
  clear hrd hc;cases htw:twB kind o (b0.toNat:Int);rotate_left
  ·have hx:=HW.o _ (RN.o.twice HM.o HERR.o RQ.o HCK.o htw);have HX:=aa hx;have HTW:=aa htw;clear hx htw
   go_wp2_with fail
   refine(Lo kind (b0.toNat:Int) o o.length rfl A c _ HRD.o (by have:=HLEN.o;omega)).mono ?_;rintro e w6 ⟨rfl,hb⟩;rw[HTW.o];have HB5:=aa (HB4.o.trans (hb.mono HB4.o.size));clear hb
   go_wp2;go_ret3;exact ll HX.o HB5.o
  have HREST:=aa (RN.o.rest HM.o HERR.o RQ.o HCK.o htw);have HTW:=aa htw;clear htw
  go_wp2_with fail
  refine(Lo kind (b0.toNat:Int) o o.length rfl A c _ HRD.o (by have:=HLEN.o;omega)).mono ?_;rintro e w6 ⟨rfl,hb⟩;rw[HTW.o];have HB5:=aa (HB4.o.trans (hb.mono HB4.o.size));have HO5:=aa (dV HO4.o hb);have HP5:=aa (HP4.o.below hb HP4.o.lt);clear hb c0 c1 c2 c3 f0 f1 f2 f3
  obtain⟨⟨c0,c1,c2,c3⟩,f0,f1,f2,f3⟩:=HP5.o.four
  by_cases hfull:o.length=1000
  ·have hx:=HW.o _ (HREST.o.1 hfull);have HX:=aa hx;have dF:decide ((1000:Int)<=(o.length:Int))=true:=au (by omega);clear hx hfull;go_wp2;go_ret3;exact ll HX.o HB5.o
  obtain⟨m',hm'⟩:=HREST.o.2 hfull;rw[HAT.o]at hm';have HNX:=aa hm';have dF:decide ((1000:Int)<=(o.length:Int))=false:=ah (by have:=HLEN.o;omega);have HLT:Hid (o.length<1000):=aa (by have:=HLEN.o;omega);have v1:(0:Int)<=(va:Int):=by omega
  have v2:(va:Int)<=(X.size:Int):=by have:=HVA.o.2;omega
  have HQ:Hid (∀g,(Value.slice A o.length c).ownBlock=some g->w.heap.size<=g):=aa (fun g hg=>(cX HO5.o g hg).1);clear hm' hfull HREST
  go_wp2_with fail
  go_region_law ((refine mS (by rfl) _ _ _ (by rfl) w.heap.size 102 _ 4 48 underlying23 zZ rfl (by decide) (.slice A o.length c) _ _ (by rfl) (by first| exact lV (HO5.o.alloc _) 1| exact(lV HO5.o 1).alloc _) _ _ 1 1 (prs [⟨b0.toNat,vn,vt,vv⟩]) (by rfl) (by first| exact(Rd.one4 w6 ⟨b0.toNat,vn,vt,vv⟩).drewN 1| exact Rd.one4 _ ⟨b0.toNat,vn,vt,vv⟩) (Eb _) (by have:=HLT.o;unfold maxLen;omega) (by have:=HLT.o;omega) (by have:=HB5.o.size;simp;omega) ?_;intro v' w7 hown7 hg7 hat7))
  have hb7:Below w.heap.size w w7:=by
   first
    | exact kz (aV (HB5.o.alloc HB5.o.size _) 1) hg7 (aV (HB5.o.alloc HB5.o.size _) 1).size HQ.o
    | exact kz ((aV HB5.o 1).alloc (aV HB5.o 1).size _) hg7 ((aV HB5.o 1).alloc (aV HB5.o 1).size _).size HQ.o
  have HB7:=aa hb7;have HO7:=aa hown7;have HXS:Hid (Uj (.string (T.extract (a+va) T.size))<X.size):=aa (by
   have h1:=HVA.o.1;have h2:=HX0.o;show(T.extract (a+va) T.size).size<X.size;rw[<-HXE.o,aj,aj];rw[<-HXE.o,aj]at h2;omega)
  clear hb7 hown7 hg7 hat7 c0 c1 c2 c3 f0 f1 f2 f3;go_wp2
  go_roundw
  case rel=>
   have hrel:∃(m a:Nat) (o:List Pr),LAt kind T m a o/\(Value.string (X.extract va X.size))= .string (T.extract a T.size)/\w7.ownsRow w.heap.size 102 4 v' o.length (prs o)/\Below w.heap.size w w7:=
    ⟨m',a+va,o++[⟨b0.toNat,vn,vt,vv⟩],HNX.o,by rw[HCU.o],by rw[wK,List.length_append];exact HO7.o,HB7.o⟩
   (repeat apply Exists.intro)
   exact⟨hrel,rfl⟩
  case measure=>
   rw[HCU.o];exact HXS.o
end Go.Proofs.YtbdgkkmbnahgiaaGreatDoor
