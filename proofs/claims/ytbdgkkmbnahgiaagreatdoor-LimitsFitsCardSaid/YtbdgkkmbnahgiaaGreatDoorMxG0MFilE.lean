/- A part of what the laws stand on: MFilE. -/
import Derived.Test.YtbdgkkmbnahgiaaGreatDoorMxG0FilC
set_option maxRecDepth 10000
set_option maxHeartbeats 8000000
namespace Go.Proofs.YtbdgkkmbnahgiaaGreatDoor
open Go.RowKit Go.Shelf
open Go.Proofs.Tryz
theorem NR(l:List ByteArray):∀u∈sv l,u.oneCell'=true:=by
 intro u hu;obtain⟨x,-,rfl⟩:=jX.1 hu;rfl
theorem MM(l:List ByteArray)(x:ByteArray):sv (l++[x])=sv l++[.string x]:=by simp[sv]
theorem Mt(s:ByteArray)(m j:Nat):(ls (s.extract m s.size))[j]? =(ls s)[m+j]? :=by rw[m9,List.getElem?_drop]
theorem Qa{s:ByteArray}{m k:Nat}(hm:m<=k)(hk:(ls s)[k]? =some 47)(hn:∀j,m<=j->j<k->(ls s)[j]? ≠some 47):lvs (s.extract m s.size)=s.extract m k :: lvs (s.extract (k+1) s.size):=by
 have hlt:k<s.size:=by have:=(cR.1 hk).1;rwa[aN]at this
 rw[Er (i:=k- m) (by rw[Mt,show m+(k- m)=k by omega];exact hk) (fun j hj=>by rw[Mt];exact hn _ (by omega) (by omega))];have e1:(s.extract m s.size).extract 0 (k- m)=s.extract m k:=by
  apply eX;rw[ix,m9];show _=(s.extract m k).data.toList;rw[Lib.extract_data];rfl
 have e2:(s.extract m s.size).extract (k- m+1) (s.extract m s.size).size=s.extract (k+1) s.size:=by
  apply eX;rw[m9,m9,m9,et,show m+(k- m+1)=k+1 by omega]
 rw[e1,e2]
theorem Om{s:ByteArray}{m:Nat}(hn:∀j,m<=j->j<s.size->(ls s)[j]? ≠some 47):lvs (s.extract m s.size)=[s.extract m s.size]:=by
 refine Cm fun j=>?_;rw[Mt]
 by_cases h:m+j<s.size
 ·exact hn _ (by omega) h
 ·rw[aG (by rw[aN];omega)];simp
theorem Jn(s:ByteArray)(w:World)(hs:s.size<=65535):
  Calls prog 319 #[.string s] w fun e w'=>∃v,e= .returned v/\w'.ownsRow w.heap.size 9 1 v (lvs s).length (sv (lvs s))/\Below w.heap.size w w':=by
 have HS:=aa hs;have HLL:=aa (Eo s);go_enter func319,ntmps319;go_wp2
 go_loopw [3,4,5] (fun o fr i wr=>∃(k m:Nat) (done:List ByteArray),k<=s.size/\m<=k/\i= .int .i64 k/\fr= .int .i64 m/\wr.ownsRow w.heap.size 9 1 o done.length (sv done)/\lvs s=done++lvs (s.extract m s.size)/\(∀j,m<=j->j<k->(ls s)[j]? ≠some 47)/\Below w.heap.size w wr) (fun _ _ i _=>s.size- (intOf i).toNat)
 case atStart=>exact⟨0,0,[],by omega,by omega,rfl,rfl,dD _ _ _ _,by rw[ByteArray.extract_zero_size,dX],fun j _ hj=>by omega,aq _ _⟩
 case round=>
  obtain⟨k,m,done,hk,hm,rfl,rfl,hown,hl,hno,hbel⟩:=hrel;have HO:=aa hown;have HL:=aa hl;have HN:=aa hno;have HB:=aa hbel
  have HDL:Hid (done.length<=65536):=aa (by
   have:=congrArg List.length hl;rw[List.length_append]at this;have:=HLL.o;omega)
  clear hown hl hno
  by_cases hlt:k<s.size
  ·obtain⟨b,hb⟩:∃b,s[k]'hlt=b:=⟨_,rfl⟩;have hat:(ls s)[k]? =some b:=by rw[List.getElem?_eq_getElem (by rw[aN];exact hlt),uY s k hlt,hb]
   have HAT:=aa hat;have b1:(0:Int)<=(k:Int):=by omega
   have b2:(k:Int)<(s.size:Int):=by omega
   have hsz:=hbel.size;clear hat
   by_cases h:b=47
   ·have e1:((b.toNat:Int)==47)=true:=by subst h;rfl
    have c1:(0:Int)<=(m:Int):=by omega
    have c2:(m:Int)<=(k:Int):=by omega
    have c3:(k:Int)<=(s.size:Int):=by omega
    have HX:Hid (lvs s=(done++[s.extract m k])++lvs (s.extract (k+1) s.size)):=aa (by
     rw[HL.o,Qa hm (by rw[HAT.o,h]) HN.o];simp)
    have HB47:=aa h;clear h
    go_wp2_with (at_builtin;refine kF _ rfl (.tmp 16) (.tmp 21) 55 rfl w.heap.size 9 (.string ByteArray.empty) 1 16 underlying55 vl rfl (by decide) u3 _ _ rfl (HO.o.alloc _) _ _ 1 1 [.string (s.extract m k)] rfl (Rd.lit _ _ _ rfl (ed _) rfl) (NR [s.extract m k]) (by have:=HDL.o;unfold maxLen;omega) (by have:=HDL.o;omega) (by simp;omega) ?_;intro v' w3 hown3 hg3 hat3)
    have R:w3.ownsRow w.heap.size 9 1 v' (done++[s.extract m k]).length (sv (done++[s.extract m k]))/\Below w.heap.size w w3:=by
     refine⟨by rw[MM,List.length_append];exact hown3,?_⟩;exact kz (HB.o.alloc (by omega) _) hg3 (by simp;omega) (fun g hg=>(cX HO.o g hg).1)
    clear hown3 hg3 hat3;go_wp2
    go_roundw
    case rel=>exact⟨k+1,k+1,done++[s.extract m k],by omega,by omega,by go_num,by go_num,R.1,HX.o,fun j h1 h2=>by omega,R.2⟩
    case measure=>simp[intOf];omega
   ·have e1:((b.toNat:Int)==47)=false:=ar.2 (fun x=>h (UInt8.toNat_inj.1 (by rw[show(47:UInt8).toNat=47 from rfl];omega)));have HX:Hid (∀j,m<=j->j<k+1->(ls s)[j]? ≠some 47):=aa (by
     intro j h1 h2;rcases dx.1 h2 with h3| rfl
     ·exact HN.o j h1 h3
     ·rw[HAT.o];simpa using h)
    clear h;go_wp2
    go_roundw
    case rel=>exact⟨k+1,m,done,by omega,by omega,by go_num,rfl,HO.o,HL.o,HX.o,HB.o⟩
    case measure=>simp[intOf];omega
  ·obtain rfl:k=s.size:=by omega
   have c1:(0:Int)<=(m:Int):=by omega
   have c2:(m:Int)<=(s.size:Int):=by omega
   have hsz:=hbel.size;have HX:Hid (lvs s=done++[s.extract m s.size]):=aa (by rw[HL.o,Om HN.o])
   go_wp2_with (at_builtin;refine kF _ rfl (.tmp 25) (.tmp 29) 55 rfl w.heap.size 9 (.string ByteArray.empty) 1 16 underlying55 vl rfl (by decide) u3 _ _ rfl (HO.o.alloc _) _ _ 1 1 [.string (s.extract m s.size)] rfl (Rd.lit _ _ _ rfl (ed _) rfl) (NR [s.extract m s.size]) (by have:=HDL.o;unfold maxLen;omega) (by have:=HDL.o;omega) (by simp;omega) ?_;intro v' w3 hown3 hg3 hat3)
   have R:w3.ownsRow w.heap.size 9 1 v' (lvs s).length (sv (lvs s))/\Below w.heap.size w w3:=by
    rw[HX.o];refine⟨by rw[MM,List.length_append];exact hown3,?_⟩;exact kz (HB.o.alloc (by omega) _) hg3 (by simp;omega) (fun g hg=>(cX HO.o g hg).1)
   clear hown3 hg3 hat3;go_wp2;go_ret;exact⟨v',rfl,R.1,R.2⟩
theorem PE:∀(l:List ByteArray) (k:Nat),(jn (l.take k)).length<=(jn l).length
 | [],k=>by simp
 | x :: l,0=>by simp[jn]
 | x :: l,k+1=>by
   have:∀(m:List ByteArray) (k:Nat),(jt (m.take k)).length<=(jt m).length:=by
    intro m
    induction m with
    | nil=>intro k;simp
    | cons y m ih=>
      intro k;cases k with
      | zero=>simp[jt]
      | succ k=>
        have:=ih k;rw[GG,jt,jt,bM,bM,List.length_append,List.length_append];omega
   have:=this l k;rw[GG,jn,jn,List.length_append,List.length_append];omega
theorem PG(l:List ByteArray)(k:Nat)(x:ByteArray)(hx:l[k]? =some x):jn (l.take (k+1))=if k=0 then ls x else jn (l.take k)++47 :: ls x:=by
 have hlt:=(cR.1 hx).1;rw[List.take_add_one,hx];simp only[Option.toList_some];rw[PF]
 by_cases h:k=0
 ·subst h;rfl
 ·rw[ae h,ae (fun e=>by have:=congrArg List.length e;rw[cY,eC]at this;omega)]
theorem LL(A:Option Addr)(n c:Nat)(l:List ByteArray)(w:World)(hn:l.length=n)(h:Rd w w.heap.size 1 A n (sv l))(hl:(jn l).length<=65535)(hn2:n<=4611686018427387904):
  Calls prog 365 #[.slice A n c] w fun e w'=>e= .returned (.string ⟨(jn l).toArray⟩)/\Below w.heap.size w w':=by
 have E1:=aa hn;have HL:=aa h;have HJ:=aa hl
 clear hn h hl;go_enter func365,ntmps365;go_wp2
 go_loopw [3,4] (fun o i wr=>∃k:Nat,k<=n/\i= .int .i64 k/\o= .string ⟨(jn (l.take k)).toArray⟩/\Below w.heap.size w wr) (fun _ i _=>n- (intOf i).toNat)
 case atStart=>exact⟨0,by omega,rfl,rfl,aq _ _⟩
 case round=>
  obtain⟨k,hk,rfl,rfl,hbel⟩:=hrel;have HB:=aa hbel
  by_cases hlt:k<n
  ·obtain⟨b,o,x,rfl,hb,hx,hc⟩:=Gd (HL.o.below hbel) hlt;have HX:=aa hx;have HNX:=aa (PG l k x hx);have HT:=aa (PE l (k+1));have HQ:Hid ((jn (l.take k)).length+1+x.size<=65536):=aa (by
    have h1:=HT.o;have h2:=HJ.o;have h3:=congrArg List.length HNX.o
    by_cases h0:k=0
    ·rw[if_pos h0,aN]at h3;subst h0;simp[jn];omega
    ·rw[ae h0,List.length_append,bM,aN]at h3;omega)
   have b1:(0:Int)<=(k:Int):=by omega
   have b2:(k:Int)<(n:Int):=by omega
   generalize hP:jn (l.take k)=P at*;have HP:=aa hP;clear hx hP
   by_cases h0:k=0
   ·have HP0:Hid ((⟨P.toArray⟩:ByteArray)++x=⟨(jn (l.take (k+1))).toArray⟩):=aa (by
     rw[HNX.o,if_pos h0,<-HP.o,h0,GZ];apply eX;rw[fe,jo,jo];rfl)
    have d0:¬(0:Int)<(k:Int):=by omega
    have f1:P.length+x.size<=65536:=by have:=HQ.o;omega
    have f2:¬(9223372036854775807<P.length+x.size):=by omega
    clear h0;go_wp2
    go_roundw
    case rel=>exact⟨k+1,by omega,by go_num,by rw[<-HP0.o],HB.o⟩
    case measure=>simp[intOf];omega
   ·have HP0:Hid (((⟨P.toArray⟩:ByteArray)++⟨#[47]⟩)++x=⟨(jn (l.take (k+1))).toArray⟩):=aa (by
     rw[HNX.o,ae h0];apply eX;rw[fe,fe,jo,jo];show P++[47]++ls x=_;rw[jo,List.append_assoc];rfl)
    have d0:(0:Int)<(k:Int):=by omega
    have f0:¬(9223372036854775807<P.length+1):=by have:=HQ.o;omega
    have f2:¬(9223372036854775807<P.length+1+x.size):=by have:=HQ.o;omega
    clear h0;go_wp2
    go_roundw
    case rel=>exact⟨k+1,by omega,by go_num,by rw[<-HP0.o],HB.o⟩
    case measure=>simp[intOf];omega
  ·obtain rfl:k=n:=by omega
   have HX:Hid (l.take k=l):=aa (by rw[<-E1.o,GK]);go_wp2;go_ret;exact⟨by rw[HX.o];rfl,hbel⟩
theorem LY{l:List ByteArray}{i:Nat}{x:ByteArray}(hx:l[i]? =some x)(h:Ju x (decide (i+1=l.length))=false):jk l=false:=yA hx (by rw[<-KV];exact h)
theorem Jo(s:ByteArray)(w:World)(hs:s.size<=4611686018427387904):
  Calls prog 247 #[.string s] w fun e w'=>e= .returned (.bool (gj s))/\Below w.heap.size w w':=by
 have HE:Hid (gj s=((decide (s.size≠0)&&bN s)&&jk (lvs s))):=aa rfl;have hem:=kR s;have HS:=aa hs;clear hs
 go_enter func247,ntmps247
 by_cases h0:s.size=0
 ·rw[au h0]at hem;have HX:Hid (gj s=false):=aa (by rw[HE.o,ah (fun x=>x h0)];rfl);clear h0;go_wp2;go_ret;exact⟨by rw[HX.o];rfl,aq _ _⟩
 rw[ah h0]at hem;have HE1:Hid (gj s=(bN s&&jk (lvs s))):=aa (by rw[HE.o,au h0,aL]);clear h0 HE
 go_wp2_with fail
 refine(xj s _ HS.o).mono ?_;rintro e w1 ⟨rfl,hw1⟩;subst hw1;cases hv:bN s
 ·have HX:Hid (gj s=false):=aa (by rw[HE1.o,hv];rfl);clear hv;go_wp2;go_ret;exact⟨by rw[HX.o];rfl,aq _ _⟩
 have HE2:Hid (gj s=jk (lvs s)):=aa (by rw[HE1.o,hv,aL]);have HV:Hid (s.size<=65535):=aa (gL hv);clear hv HE1;have HLS:Hid (∀x∈lvs s,x.size<=65535):=aa fun x hx=>aC (Cl s x hx) HV.o;have HLL:Hid ((lvs s).length<=65536):=aa (by have:=Eo s;have:=HV.o;omega)
 go_wp2_with fail
 refine(Jn s _ HV.o).mono ?_;rintro e w2 ⟨v,rfl,hown,hb⟩;have HB:=aa hb;obtain⟨A,c,rfl,hcap,hrd⟩:=jK hown;have HL:=aa hrd;clear hb hown hrd;generalize lvs s=l at*;obtain⟨n,hn⟩:∃n,l.length=n:=⟨_,rfl⟩;rw[hn]at HL HLL hcap⊢;have E1:=aa hn;have hn2:n<=65536:=HLL.o;clear hn hem;go_wp2
 go_loopw [4] (fun i wr=>∃k:Nat,k<=n/\i= .int .i64 k/\(∀(j:Nat) (y:ByteArray),j<k->l[j]? =some y->j8 y (decide (j+1=l.length))=true)/\Below w2.heap.size w2 wr) (fun i _=>n- (intOf i).toNat)
 case atStart=>exact⟨0,by omega,rfl,fun j x hj=>by omega,aq _ _⟩
 case round=>
  obtain⟨k,hk,rfl,hall,hbel⟩:=hrel;have HA:=aa hall;have HB3:=aa (HB.o.trans (hbel.mono HB.o.size));have HBL:=aa hbel;clear hall
  by_cases hlt:k<n
  ·obtain⟨b,o,x,rfl,hb,hx,hc⟩:=Gd (HL.o.below hbel) hlt;have HX:=aa hx;have HXS:=aa (HLS.o x (iL hx));obtain⟨d,hd⟩:∃d,decide (k+1=l.length)=d:=⟨_,rfl⟩;have hlast:decide ((k:Int)+1<(n:Int))= !d:=by
    rw[<-hd,E1.o,eG,cH,Bool.not_eq_true',Ip];omega
   have HD:=aa hd;have b1:(0:Int)<=(k:Int):=by omega
   have b2:(k:Int)<(n:Int):=by omega
   have HV3:Hid (Ju x d= !((Hh (ls x) 43&& !(x.toList==[43])) || (Hh (ls x) 35&&(!(x.toList==[35]) || !d)))):=aa rfl;have HYes:Hid (Ju x d=true->∀(j:Nat) (y:ByteArray),j<k+1->l[j]? =some y->j8 y (decide (j+1=l.length))=true):=aa fun h=>oc HX.o (by rw[HD.o,<-KV];exact h) HA.o;have HNo:Hid (Ju x d=false->jk l=false):=aa fun h=>LY HX.o (by rw[HD.o];exact h);clear hx hd hbel;generalize hP:Ju x d=RL at*;clear hP
   go_wp2_with fail
   refine(Iv x 43 _ (by have:=HXS.o;omega)).mono ?_;rintro e w3 ⟨rfl,hw3⟩;subst hw3;cases h43:Hh (ls x) 43
   ·have HW:Hid (RL= !(Hh (ls x) 35&&(!(x.toList==[35]) || !d))):=aa (by rw[HV3.o,h43];rfl);clear h43
    go_wp2_with fail
    refine(Iv x 35 _ (by have:=HXS.o;omega)).mono ?_;rintro e w3 ⟨rfl,hw3⟩;subst hw3;cases h35:Hh (ls x) 35
    ·have HF:=aa (HYes.o (by rw[HW.o,h35];rfl));clear h35;go_wp2
     go_roundw
     case rel=>exact⟨k+1,by omega,by go_num,HF.o,HBL.o⟩
     case measure=>simp[intOf];omega
    ·cases hq:(x.toList==[35])
     ·have HF:=aa (HNo.o (by rw[HW.o,h35,hq];rfl));clear h35;go_wp2;go_ret;exact⟨by rw[HE2.o,HF.o];rfl,HB3.o⟩
     ·cases d
      ·have HF:=aa (HNo.o (by rw[HW.o,h35,hq];rfl));have hl2:(k:Int)+1<(n:Int):=aR hlast;clear h35 hlast;go_wp2;go_ret;exact⟨by rw[HE2.o,HF.o];rfl,HB3.o⟩
      ·have HF:=aa (HYes.o (by rw[HW.o,h35,hq];rfl));have hl2:¬(k:Int)+1<(n:Int):=Gy hlast;clear h35 hlast;go_wp2
       go_roundw
       case rel=>exact⟨k+1,by omega,by go_num,HF.o,HBL.o⟩
       case measure=>simp[intOf];omega
   ·cases hp:(x.toList==[43])
    ·have HF:=aa (HNo.o (by rw[HV3.o,h43,hp];rfl));clear h43;go_wp2;go_ret;exact⟨by rw[HE2.o,HF.o];rfl,HB3.o⟩
    ·have HX43:Hid (Hh (ls x) 35=false):=aa (by
      have:ls x=[43]:=by rw[<-Gc];exact aK.1 hp
      rw[this];rfl)
     have HF:=aa (HYes.o (by rw[HV3.o,h43,hp,HX43.o];rfl));clear h43
     go_wp2_with fail
     refine(Iv x 35 _ (by have:=HXS.o;omega)).mono ?_;rintro e w3 ⟨rfl,hw3⟩;subst hw3;rw[HX43.o];go_wp2
     go_roundw
     case rel=>exact⟨k+1,by omega,by go_num,HF.o,HBL.o⟩
     case measure=>simp[intOf];omega
  ·obtain rfl:k=n:=by omega
   have HF:Hid (jk l=true):=aa (Cu (fun j y hj=>HA.o j y (by have:=E1.o;omega)));go_wp2;go_ret;exact⟨by rw[HE2.o,HF.o];rfl,HB3.o⟩
end Go.Proofs.YtbdgkkmbnahgiaaGreatDoor
namespace Go.Proofs.YtbdgkkmbnahgiaaGreatDoor
open Go.RowKit Go.Shelf
open Go.Proofs.Tryz
theorem OU(l:List ByteArray)(k:Nat):(sv l).drop (k*1)=sv (l.drop k):=by rw[rB];simp[sv]
theorem Ow(s:ByteArray):(jn ((lvs s).drop 2)).length<=s.size:=by
 have h:∀l:List ByteArray,(jn (l.drop 1)).length<=(jn l).length:=by
  intro l;cases l with
  | nil=>simp
  | cons x l=>
    cases l with
    | nil=>simp[jn,jt]
    | cons y l=>simp[jn,jt];omega
 have h1:=h (lvs s);have h2:=h ((lvs s).drop 1);rw[et,show 1+1=2 from rfl]at h2;have h3:=congrArg List.length (Ov s);rw[aN]at h3;omega
theorem KB(s:ByteArray)(w:World)(hs:s.size<=4611686018427387904):
  Calls prog 320 #[.string s] w (AK s w):=by
 have HE:Hid (fy s=(bN s&&(gV s&&(decide (3<=(lvs s).length)&&((decide (((lvs s).getD 1 ⟨#[]⟩).size≠0)&& !(Hh (ls ((lvs s).getD 1 ⟨#[]⟩)) 43 || Hh (ls ((lvs s).getD 1 ⟨#[]⟩)) 35))&&gj ⟨(jn ((lvs s).drop 2)).toArray⟩))))):=aa (Na s).symm;have HS:=aa hs;clear hs
 go_enter func320,ntmps320
 go_wp2_with fail
 refine(xj s _ HS.o).mono ?_;rintro e w1 ⟨rfl,hw1⟩;subst hw1;cases hv:bN s
 ·have HX:Hid (fy s=false):=aa (by rw[HE.o,hv];rfl);clear hv;go_wp2;go_ret3;exact⟨⟨_,_,by rw[HX.o];rfl⟩,aq _ _⟩
 have HE1:=HE.o;rw[hv,aL]at HE1
 replace HE1:=aa HE1
 have HV:Hid (s.size<=65535):=aa (gL hv);clear hv HE
 by_cases h7:7<=s.size
 rotate_left
 ·have HX:Hid (fy s=false):=aa (by rw[HE1.o,sg,ah h7];rfl);have d7:(s.size:Int)<7:=by omega
  clear h7;go_wp2;go_ret3;exact⟨⟨_,_,by rw[HX.o];rfl⟩,aq _ _⟩
 have HF:Hid (gV s=((s.extract 0 7).toList==[36,115,104,97,114,101,47])):=aa (by rw[sg,au h7,aL]);have d7:¬(s.size:Int)<7:=by omega
 have d7':(7:Int)<=(s.size:Int):=by omega
 clear h7;cases hf:((s.extract 0 7).toList==[36,115,104,97,114,101,47])
 ·have HX:Hid (fy s=false):=aa (by rw[HE1.o,HF.o,hf];rfl);go_wp2;go_ret3;exact⟨⟨_,_,by rw[HX.o];rfl⟩,aq _ _⟩
 have HE2:=HE1.o;rw[HF.o,hf,aL]at HE2
 replace HE2:=aa HE2
 clear HE1 HF;have HLS:Hid (∀x∈lvs s,x.size<=65535):=aa fun x hx=>aC (Cl s x hx) HV.o;have HLL:Hid ((lvs s).length<=65536):=aa (by have:=Eo s;have:=HV.o;omega);have HJ:Hid ((jn ((lvs s).drop 2)).length<=65535):=aa (by have:=Ow s;have:=HV.o;omega)
 go_wp2_with fail
 refine(Jn s _ HV.o).mono ?_;rintro e w2 ⟨v,rfl,hown,hb⟩;have HB:=aa hb;obtain⟨A,c,rfl,hcap,hrd⟩:=jK hown;have HL:=aa hrd;clear hb hown hrd;generalize lvs s=l at*;obtain⟨n,hn⟩:∃n,l.length=n:=⟨_,rfl⟩;rw[hn]at HL HLL hcap HE2⊢;have E1:=aa hn;have hn2:n<=65536:=HLL.o;clear hn hf
 by_cases h3:3<=n
 rotate_left
 ·have HX:Hid (fy s=false):=aa (by rw[HE2.o,ah h3];rfl);have d3:(n:Int)<3:=by omega
  clear h3;go_wp2;go_ret3;exact⟨⟨_,_,by rw[HX.o];rfl⟩,HB.o⟩
 have HE3:=HE2.o;rw[au h3,aL]at HE3;have d3:¬(n:Int)<3:=by omega
 have d1:(1:Int)<(n:Int):=by omega
 have H3:=aa h3;obtain⟨b,o,x,rfl,hb,hx,hc⟩:=Gd HL.o (show 1<n by omega);have HXS:=aa (HLS.o x (iL hx));have hgd:l.getD 1 ⟨#[]⟩=x:=by rw[List.getD_eq_getElem?_getD,hx];rfl
 rw[hgd]at HE3
 replace HE3:=aa HE3
 have hem:=kR x;clear h3 hx hgd HE2
 by_cases h0:x.size=0
 ·rw[au h0]at hem;have HX:Hid (fy s=false):=aa (by rw[HE3.o,ah (fun y=>y h0)];rfl);clear h0;go_wp2;go_ret3;exact⟨⟨_,_,by rw[HX.o];rfl⟩,HB.o⟩
 rw[ah h0]at hem;have HE4:=HE3.o;rw[au h0,aL]at HE4
 replace HE4:=aa HE4
 clear h0 HE3
 go_wp2_with fail
 refine(Iv x 43 _ (by have:=HXS.o;omega)).mono ?_;rintro e w3 ⟨rfl,hw3⟩;subst hw3;cases h43:Hh (ls x) 43;rotate_left
 ·have HX:Hid (fy s=false):=aa (by rw[HE4.o,h43];rfl);clear h43;go_wp2;go_ret3;exact⟨⟨_,_,by rw[HX.o];rfl⟩,HB.o⟩
 have HE5:=HE4.o;rw[h43,nB]at HE5
 replace HE5:=aa HE5
 clear h43 HE4
 go_wp2_with fail
 refine(Iv x 35 _ (by have:=HXS.o;omega)).mono ?_;rintro e w3 ⟨rfl,hw3⟩;subst hw3;cases h35:Hh (ls x) 35;rotate_left
 ·have HX:Hid (fy s=false):=aa (by rw[HE5.o,h35];rfl);clear h35;go_wp2;go_ret3;exact⟨⟨_,_,by rw[HX.o];rfl⟩,HB.o⟩
 have HE6:Hid (fy s=gj ⟨(jn (l.drop 2)).toArray⟩):=aa (by rw[HE5.o,h35];rfl);clear h35 HE5;have hsl:∀W,(Instr.slice 55 (.slice (some ⟨b,o,none⟩) n c) (some (.int .i64 2)) none none).run prog W= .ok (.slice (xt (some ⟨b,o,none⟩) c 2 1) (n- 2) (c- 2)) W:=fun W=>NV (P:=prog) underlying55 Tryz.sizeOf9 (some ⟨b,o,none⟩) n c 2 (by have:=H3.o;omega) W;have HR:Hid (Rd w2 w2.heap.size 1 (xt (some ⟨b,o,none⟩) c 2 1) (n- 2) (sv (l.drop 2))):=aa (by
  rw[<-OU];exact HL.o.cut_from (by have:=H3.o;omega) hcap)
 generalize xt (some ⟨b,o,none⟩) c 2 1=A2 at*
 go_wp2_with fail
 refine(LL A2 (n- 2) (c- 2) (l.drop 2) _ (by rw[bU,E1.o]) HR.o HJ.o (by omega)).mono ?_;rintro e w4 ⟨rfl,hb4⟩;have HB4:=aa (HB.o.trans (hb4.mono HB.o.size));have hc4:=(hb4.cell (p:=⟨b,o+1,none⟩) hb).trans hc;obtain⟨Y,hY⟩:∃Y:ByteArray,(⟨(jn (l.drop 2)).toArray⟩:ByteArray)=Y:=⟨_,rfl⟩;have HYS:Hid (Y.size<=65535):=aa (by rw[<-hY,<-aN,jo];exact HJ.o);rw[hY]at HE6⊢;clear hb4 hsl hc hY
 go_wp2_with fail
 refine(Jo Y _ (by have:=HYS.o;omega)).mono ?_;rintro e w5 ⟨rfl,hb5⟩;have HB5:=aa (HB4.o.trans (hb5.mono HB4.o.size));have hlt4:b<w4.heap.size:=by have:=HB4.o.size;have:=HB.o.size;exact(eY _ _ hc4)
 have hc5:=(hb5.cell (p:=⟨b,o+1,none⟩) hlt4).trans hc4;clear hb5 hc4 hlt4;cases hF:gj Y
 ·have HX:Hid (fy s=false):=aa (by rw[HE6.o,hF]);clear hF;go_wp2;go_ret3;exact⟨⟨_,_,by rw[HX.o];rfl⟩,HB5.o⟩
 ·have HX:Hid (fy s=true):=aa (by rw[HE6.o,hF]);clear hF;go_wp2;go_ret3;exact⟨⟨_,_,by rw[HX.o];rfl⟩,HB5.o⟩
end Go.Proofs.YtbdgkkmbnahgiaaGreatDoor
