/- Parts: SubA, FilC, MSubB, SubM, Rtc. -/
import Derived.Test.YtafoknnjekegkaaGreatDoorLqG0OrdG
import Derived.Shelf.Strings.SplitCore
import Derived.Shelf.Strings.Search3
import Derived.Shelf.Strings.Count
import Derived.Shelf.Strings.Cut
import Derived.Lib.ConvBytes
import Derived.Laws.IdiomCopy
set_option maxRecDepth 10000
set_option maxHeartbeats 8000000
namespace Go.Proofs.YtafoknnjekegkaaGreatDoor
open Go.RowKit Go.Proofs.Tryz
def ir(v k:Int):Bool:=decide ((v=4\/v=5)/\8<=k/\k<=11)
def jm(k:Int):Bool:=decide (k=8\/k=10)
def pP(v k:Int):Bool:=decide (k=11/\v=4)
def sbQ(v:Int)(p:Pk):Pk:=
 if jm p.kind=true then {pk0 with kind:=p.kind,id:=p.id,props:=p.props,filters:=p.filters}
 else if pP v p.kind=true then {pk0 with kind:=p.kind,id:=p.id,props:=p.props}
 else {pk0 with kind:=p.kind,id:=p.id,props:=p.props,codes:=p.codes}
def lj(v:Int)(p:Pk):Bool:=if jm p.kind=true then decide (0<p.filters.length)else if pP v p.kind=true then true else decide (0<p.codes.length)
def eH(v:Int)(p:Pk):Bool:=!(decide (p.id<1) || (decide (65535<p.id) || (decide (v=4)&&decide (0<p.props.length))))&&(lj v p&&decide (p=sbQ v p))
def jZ(n:Int):Bool:=decide (0<=n)&&decide (n<3)
def l9(f:Fi):Bool:=decide (f=⟨f.topic,f.qos,false,false,0⟩)
def nT(v k:Int)(f:Fi):Bool:=
 if k=10 then l9 f&&decide (f.qos=0)else if v=4 then l9 f&&jZ f.qos else jZ f.qos&&(jZ f.handling&& !(fy f.topic&&f.noLocal))
def xF(v k c:Int):Bool:=if v=4 then tq c else may k c
def fiE(v k:Int):List Fi->Int
 | []=>0
 | f :: l=>if gj f.topic=false then 10 else if nT v k f=false then 2 else fiE v k l
def cdE(v k:Int):List Int->Int
 | []=>0
 | c :: l=>if xF v k c=false then 2 else cdE v k l
def xY(v:Int)(p:Pk):Bool:=ir v p.kind&&eH v p
def sbE(v:Int)(p:Pk):Int:=
 if xY v p=false then 2 else if(aM p.kind p.props).2≠0 then(aM p.kind p.props).2
 else if fiE v p.kind p.filters≠0 then fiE v p.kind p.filters else cdE v p.kind p.codes
end Go.Proofs.YtafoknnjekegkaaGreatDoor
namespace Go.Proofs.YtafoknnjekegkaaGreatDoor
open Go.RowKit Go.Shelf
open Go.Proofs.Tryz
def vg:Ren:=⟨fun| 138=>346| 143=>347| 195=>351| 197=>352| 217=>350| 218=>353| 219=>349| 221=>335| 224=>343| 225=>344| 260=>356| 266=>355| 267=>354| 268=>345| 314=>357| n=>n,fun| 0=>0| 3=>3| 4=>4| 5=>5| 9=>9| 21=>21| 31=>42| 46=>76| 51=>69| 105=>287| 119=>291| 138=>293| 139=>294| 146=>289| n=>n,fun| 1=>0| 3=>1| 4=>2| n=>n⟩
theorem pF:Lays.n221 prog vg where
 mixed:=by kernel_rfl
 f138:=func346.trans (congrArg some (by kernel_rfl))
 f143:=func347.trans (congrArg some (by kernel_rfl))
 f195:=func351.trans (congrArg some (by kernel_rfl))
 f197:=func352.trans (congrArg some (by kernel_rfl))
 f217:=func350.trans (congrArg some (by kernel_rfl))
 f218:=func353.trans (congrArg some (by kernel_rfl))
 f219:=func349.trans (congrArg some (by kernel_rfl))
 f221:=func335.trans (congrArg some (by kernel_rfl))
 f224:=func343.trans (congrArg some (by kernel_rfl))
 f225:=func344.trans (congrArg some (by kernel_rfl))
 f260:=func356.trans (congrArg some (by kernel_rfl))
 f266:=func355.trans (congrArg some (by kernel_rfl))
 f267:=func354.trans (congrArg some (by kernel_rfl))
 f268:=func345.trans (congrArg some (by kernel_rfl))
 f314:=func357.trans (congrArg some (by kernel_rfl))
 t0:=underlying0
 a0:=Tryz.isAgg0
 z0:=Tryz.sizeOf0
 v0:=Tryz.zeroValue0
 t3:=underlying3
 a3:=Tryz.isAgg3
 z3:=Tryz.sizeOf3
 v3:=Tryz.zeroValue3
 t4:=underlying4
 a4:=Tryz.isAgg4
 z4:=Tryz.sizeOf4
 v4:=Tryz.zeroValue4
 t5:=underlying5
 a5:=Tryz.isAgg5
 z5:=Tryz.sizeOf5
 v5:=Tryz.zeroValue5
 t9:=underlying9
 a9:=Tryz.isAgg9
 z9:=Tryz.sizeOf9
 v9:=Tryz.zeroValue9
 t21:=underlying21
 a21:=Tryz.isAgg21
 z21:=Tryz.sizeOf21
 v21:=Tryz.zeroValue21
 t31:=underlying42
 a31:=Tryz.isAgg42
 z31:=Tryz.sizeOf42
 v31:=Tryz.zeroValue42
 t46:=underlying76
 a46:=Tryz.isAgg76
 z46:=Tryz.sizeOf76
 v46:=Tryz.zeroValue76
 t51:=underlying69
 a51:=Tryz.isAgg69
 z51:=Tryz.sizeOf69
 v51:=Tryz.zeroValue69
 t105:=underlying287
 a105:=Tryz.isAgg287
 z105:=Tryz.sizeOf287
 v105:=Tryz.zeroValue287
 t119:=underlying291
 a119:=Tryz.isAgg291
 z119:=Tryz.sizeOf291
 t138:=underlying293
 a138:=Tryz.isAgg293
 z138:=Tryz.sizeOf293
 v138:=Tryz.zeroValue293
 t139:=underlying294
 a139:=Tryz.isAgg294
 z139:=Tryz.sizeOf294
 v139:=Tryz.zeroValue294
 t146:=underlying289
 a146:=Tryz.isAgg289
 z146:=Tryz.sizeOf289
 v146:=Tryz.zeroValue289
 g1:=by kernel_rfl
 g3:=by kernel_rfl
 g4:=by kernel_rfl
theorem vl:(prog.info? 9).map (λi=>(i.zero,i.size,i.bytes))=some (some (.string ByteArray.empty),1,16):=by kernel_rfl
def sv(l:List abO):List Value:=l.map Value.string
theorem aaT(l:List abO):(sv l).length=l.length:=by simp[sv]
theorem EB(x:abO)(w:abP):Calls prog 347 #[.string x,.string ⟨#[47]⟩] w λe w'=>e= .returned (.int .i64 (Lib.indexB x ⟨#[47]⟩))/\w'=w:=by
 have c:Calls prog 347 #[.string x,.string ⟨#[47]⟩] w λe w'=>e= .returned (.int .i64 (Lib.indexByte x.data.toList 47))/\w'=w:=Any.strings_Index_one {pF with} x 47 w;rw[<-Lib.index_one]at c;exact c
theorem vo(x:abO)(w:abP):Calls prog 349 #[.string x,.string ⟨#[47]⟩] w λe w'=>e= .returned (.int .i64 (Lib.indexB x ⟨#[47]⟩))/\w'=w:=by
 have c:Calls prog 349 #[.string x,.string ⟨#[47]⟩] w λe w'=>e= .returned (.int .i64 (Lib.indexByte x.data.toList 47))/\w'=w:=Any.stringslite_Index_one {pF with} x 47 w;rw[<-Lib.index_one]at c;exact c
theorem EN(x:abO)(w:abP):Calls prog 346 #[.string x,.string ⟨#[47]⟩] w λe w'=>e= .returned (.int .i64 (Lib.countB x ⟨#[47]⟩))/\w'=w:=by
 have c:Calls prog 346 #[.string x,.string ⟨#[47]⟩] w λe w'=>e= .returned (.int .i64 (Lib.countByte x.data.toList 47))/\w'=w:=Any.strings_Count_one {pF with} x 47 w;refine c.mono λe w' ⟨a,b⟩=>⟨?_,b⟩;rw[a];show _=Ending.returned (Value.int .i64 ((Lib.count x.data.toList [47]:Nat):Int));rw[Lib.count_one];rfl
theorem aaO(s:abO)(w:abP)(hs:s.size<4294967281):
  Calls prog 312 #[.string s,.string ⟨#[47]⟩] w λe w'=>e= .returned (.slice (some ⟨w.heap.size,0,none⟩) (lvs s).length (lvs s).length)/\w'=w.alloc (.cells (sv (lvs s)).toArray 9):=by
 have d:=Lib.countB_le ⟨#[47]⟩ (by decide) s.size s (ac _);have c:Calls prog 335 #[.string s,.string ⟨#[47]⟩,.int .i64 ((0:Nat):Int),.int .i64 (-1)] w _:=Any.strings_genSplit_core pF vl s ⟨#[47]⟩ 0 (-1) (Lib.countB s ⟨#[47]⟩+1) w hs (by decide) (ag _) (λx c _=>EB x _) (EN s w) (by decide) (by decide) (by rw[if_pos (by decide)];omega);rw[Nat.add_sub_cancel]at c;have a:Lib.cellsOf (Lib.splitB ⟨#[47]⟩ 0 (Lib.countB s ⟨#[47]⟩) s) (Lib.countB s ⟨#[47]⟩+1)=(sv (lvs s)).toArray:=by rw[<-Zg s];exact Lib.cellsOf_full _
 rw[a]at c;have b:(Lib.splitB ⟨#[47]⟩ 0 (Lib.countB s ⟨#[47]⟩) s).length=(lvs s).length:=rfl;rw[b,<-Zg s]at c;clear d a b hs;generalize lvs s=l at*;go_enter func312,ntmps312;go_wp2_with fail;refine c.mono ?_;rintro e f ⟨rfl,rfl⟩;go_wp2;go_ret;exact⟨rfl,rfl⟩
theorem vf(s:abO)(w:abP)(hs:s.size<4294967281):
  Calls prog 285 #[.string s] w λe w'=>e= .returned (.slice (some ⟨w.heap.size,0,none⟩) (lvs s).length (lvs s).length)/\w'=w.alloc (.cells (sv (lvs s)).toArray 9):=by
 have c:=aaO s w hs;generalize lvs s=l at*;go_enter func285,ntmps285;go_wp2_with fail;refine c.mono ?_;rintro e a ⟨rfl,rfl⟩;go_wp2;go_ret;exact⟨rfl,rfl⟩
theorem tS(x:abO)(w:abP):
  abT 311 #[.string x] w (.bool (mi x)):=by
 have b:Hid (mi x=((x.toList==[43]) || (x.toList==[35]))):=aa rfl;go_enter func311,ntmps311;cases c:(x.toList==[43])
 ·have a:Hid (mi x=(x.toList==[35])):=aa (by rw[b.o,c,nB]);go_wp2;go_ret;exact⟨by rw[a.o];rfl,rfl⟩
 ·have a:Hid (mi x=true):=aa (by rw[b.o,c,Bool.true_or]);go_wp2;go_ret;exact⟨by rw[a.o];rfl,rfl⟩
theorem oc{l:List abO}{k:Nat}{x:abO}(hx:l[k]? =some x)(h:j8 x (decide (k+1=l.length))=true)(ha:∀(j:Nat) (y:abO),j<k->l[j]? =some y->j8 y (decide (j+1=l.length))=true):
  ∀(j:Nat) (y:abO),j<k+1->l[j]? =some y->j8 y (decide (j+1=l.length))=true:=by
 intro j y c a;rcases dx.1 c with b| rfl
 ·exact ha j y b a
 ·rw[hx]at a;obtain rfl:=Option.some.inj a;exact h
theorem Cu{l:List abO}(ha:∀(j:Nat) (y:abO),j<l.length->l[j]? =some y->j8 y (decide (j+1=l.length))=true):jk l=true:=
 aa1 λi x a=>ha i x (YI.1 a).1 a
theorem Gd{w:abP}{B n:Nat}{A:Option Addr}{l:List abO}(h:Rd w B 1 A n (sv l)){i:Nat}(hi:i<n):∃b o x,A=some ⟨b,o,none⟩/\b<B/\l[i]? =some x/\w.cell? ⟨b,o+i,none⟩=some (.string x):=by
 obtain⟨b,o,u,e,c,f,d⟩:=h.at1 hi;have a:i<l.length:=by have:=h.len;rw[aaT]at this;omega
 refine⟨b,o,l[i],e,c,List.getElem?_eq_getElem a,?_⟩;have:u= .string l[i]:=by simpa [sv,a]using f.symm
 rw[<-this];exact d
theorem wW(A:Option Addr)(n c:Nat)(l:List abO)(w:abP)(hn:l.length=n)(h:Rd w w.heap.size 1 A n (sv l))(hsz:∀x∈l,x.size<=65535)(hn2:n<=4611686018427387904):
  abR 284 #[.slice A n c] w (.bool (jk l)):=by
 have H:=aa hn;have L:=aa h;have M:=aa hsz
 clear hn h hsz;go_enter func284,ntmps284;go_wp2
 go_loopw [8] (λi wr=>∃k:Nat,k<=n/\i= .int .i64 k/\(∀(j:Nat) (y:abO),j<k->l[j]? =some y->j8 y (decide (j+1=l.length))=true)/\abQ w wr) (λi _=>n- (intOf i).toNat)
 case atStart=>exact⟨0,by omega,rfl,λj x N=>by omega,aq _ _⟩
 case round=>
  obtain⟨k,R,rfl,r,f⟩:=hrel;have s:=aa r;have g:=aa f;clear r
  by_cases J:k<n
  ·obtain⟨b,o,x,rfl,P,G,Q⟩:=Gd (L.o.below f) J;have p:=aa G;have I:=aa (M.o x (iL G));obtain⟨d,F⟩:∃d,decide (k+1=l.length)=d:=⟨_,rfl⟩;have K:((k:Int)+1==(n:Int))=d:=by
    rw[<-F,H.o,eG,aK,cH];omega
   have m:=aa F;have b1:(0:Int)<=(k:Int):=by omega
   have b2:(k:Int)<(n:Int):=by omega
   have E:Hid (j8 x d= !(((x.toList==[35])&& !d) || (!mi x&&mg x))):=aa rfl;clear G F f;cases q:(x.toList==[35])
   ·have z:Hid (j8 x d= !(!mi x&&mg x)):=aa (by rw[E.o,q];rfl);go_wp2_with fail;refine(tS x _).mono ?_;rintro e O ⟨rfl,rfl⟩;cases u:mi x
    ·have B:Hid (j8 x d= !mg x):=aa (by rw[z.o,u];rfl);clear u;go_wp2_with fail;refine Yg (kW x _ I.o) λS D=>?_;have v:=aa (Yf g.o D);clear D
     cases t:mg x
     ·have a:Hid (j8 x (decide (k+1=l.length))=true):=aa (by rw[m.o,B.o,t];rfl);clear t;go_wp2;go_roundw
      case rel=>exact⟨k+1,by omega,by go_num,oc p.o a.o s.o,v.o⟩
      case measure=>simp[intOf];omega
     ·have a:Hid (jk l=false):=aa (yA p.o (by rw[m.o,B.o,t];rfl));clear t;go_wp2;go_ret;exact⟨by rw[a.o];rfl,v.o⟩
    ·have a:Hid (j8 x (decide (k+1=l.length))=true):=aa (by rw[m.o,z.o,u];rfl);clear u;go_wp2;go_roundw
     case rel=>exact⟨k+1,by omega,by go_num,oc p.o a.o s.o,g.o⟩
     case measure=>simp[intOf];omega
   ·cases d
    ·have a:Hid (jk l=false):=aa (yA p.o (by rw[m.o,E.o,q];rfl));go_wp2;go_ret;exact⟨by rw[a.o];rfl,g.o⟩
    ·have C:Hid (mi x=true):=aa (by unfold mi;rw[q,Bool.or_true]);have a:Hid (j8 x (decide (k+1=l.length))=true):=aa (by rw[m.o,E.o,C.o,Ra,ru];rfl);go_wp2_with fail;refine(tS x _).mono ?_;rintro e O ⟨rfl,rfl⟩;rw[C.o];go_wp2;go_roundw
     case rel=>exact⟨k+1,by omega,by go_num,oc p.o a.o s.o,g.o⟩
     case measure=>simp[intOf];omega
  ·obtain rfl:k=n:=by omega
   have a:Hid (jk l=true):=aa (Cu (λj y N=>s.o j y (by have:=H.o;omega)));go_wp2;go_ret;exact⟨by rw[a.o];rfl,f⟩
theorem Ft(w:abP)(l:List abO):Rd (w.alloc (.cells (sv l).toArray 9)) (w.alloc (.cells (sv l).toArray 9)).heap.size 1 (some ⟨w.heap.size,0,none⟩) l.length (sv l):=by
 have h:=Rd.fresh w (sv l).toArray 9;simp only[ey]at h⊢
 simpa [aaT]using h
theorem qB(s:abO)(w:abP)(hs:s.size<=4611686018427387904):
  abR 226 #[.string s] w (.bool (gj s)):=by
 have p:=aa hs;have f:Hid (gj s=(jY s&&jk (lvs s))):=aa rfl;clear hs;go_enter func226,ntmps226;go_wp2_with fail;refine Yg (rH s _ p.o) λj b=>?_;have d:=aa b;clear b
 cases a:jY s
 ·have i:Hid (gj s=false):=aa (by rw[f.o,a];rfl);clear a;go_wp2;go_ret;exact⟨by rw[i.o];rfl,d.o⟩
 have i:Hid (gj s=jk (lvs s)):=aa (by rw[f.o,a,aL]);have h:Hid (s.size<=65535):=aa (gL (by unfold jY at a;rw[eh]at a;exact a.2));clear a f;have n:Hid (∀x∈lvs s,x.size<=65535):=aa λx q=>aC (YD s x q) h.o;have m:Hid ((lvs s).length<=4611686018427387904):=aa (by have:=Eo s;have:=h.o;omega);go_wp2_with fail;refine(vf s _ (by have:=h.o;omega)).mono ?_;rintro e r ⟨rfl,rfl⟩;generalize lvs s=l at*;have o:=aa (Ft j l);have c:=aa (d.o.alloc d.o.size (.cells (sv l).toArray 9));generalize j.alloc (.cells (sv l).toArray 9)=W at*;generalize j.heap.size=g at*;go_wp2_with fail;refine Yg (wW _ _ _ l _ rfl o.o n.o m.o) λt b=>?_;have k:=aa (Yf c.o b);clear b
 go_wp2;go_ret;exact⟨by rw[i.o];rfl,k.o⟩
theorem Zn(s:abO):gV s=(decide (7<=s.size)&&((s.extract 0 7).toList==[36,115,104,97,114,101,47])):=by
 rw[Gc,ix];unfold gV;by_cases h:7<=s.size
 ·rw[au h,aL,eG,List.isPrefixOf_iff_prefix,aK,List.prefix_iff_eq_take];exact eq_comm
 ·rw[ah h,YH,Bool.eq_false_iff];intro a;have:=(List.isPrefixOf_iff_prefix.1 a).length_le;rw[aN]at this;simp[tt]at this;omega
theorem rl(s:abO)(w:abP)(hs:s.size<=4611686018427387904):
  abT 348 #[.string s,.string ⟨#[36,115,104,97,114,101,47]⟩] w (.bool (gV s)):=by
 by_cases h:7<=s.size
 ·have b:(7:Int)<=(s.size:Int):=by omega
  have a:Hid (gV s=((s.extract 0 7).toList==[36,115,104,97,114,101,47])):=aa (by rw[Zn,au h,aL]);clear h;go_enter func348,ntmps348;go_wp2;go_ret;exact⟨by rw[a.o];rfl,rfl⟩
 ·have b:¬(7:Int)<=(s.size:Int):=by omega
  have a:Hid (gV s=false):=aa (by rw[Zn,ah h,YH]);clear h;go_enter func348,ntmps348;go_wp2;go_ret;exact⟨by rw[a.o];rfl,rfl⟩
theorem xh{s:abO}(h:gV s=true):7<=s.size:=(vx h).1
theorem qF(s:abO)(w:abP)(hs:s.size<=4611686018427387904):
  abT 336 #[.string s,.string ⟨#[36,115,104,97,114,101,47]⟩] w (.tuple #[.string (kY s),.bool (gV s)]):=by
 have d:=aa hs;clear hs
 go_enter func336,ntmps336;go_wp2_with fail;refine(rl s _ d.o).mono ?_;rintro e g ⟨rfl,rfl⟩;cases a:gV s
 ·have b:=aa a;have c:Hid (kY s=s):=aa (by unfold kY;rw[a];rfl);clear a;go_wp2;go_ret2;exact⟨by rw[c.o,b.o];rfl,rfl⟩
 ·have b:=aa a;have c:Hid (kY s=s.extract 7 s.size):=aa (by unfold kY;rw[a];rfl);have f:(7:Int)<=(s.size:Int):=by have:=xh a;omega
  clear a;go_wp2;go_ret2;exact⟨by rw[c.o,b.o];rfl,rfl⟩
theorem rq(s:abO)(w:abP)(hs:s.size<=4611686018427387904):
  abT 313 #[.string s,.string ⟨#[36,115,104,97,114,101,47]⟩] w (.tuple #[.string (kY s),.bool (gV s)]):=by
 have a:=aa hs;clear hs
 go_enter func313,ntmps313;go_wp2_with fail;refine(qF s _ a.o).mono ?_;rintro e b ⟨rfl,rfl⟩;go_wp2;go_ret2;exact⟨rfl,rfl⟩
theorem De(s:abO)(w:abP)(hs:s.size<=4611686018427387904):
  abR 337 #[.string s,.string ⟨#[47]⟩] w (.tuple #[.string (ky s).1,.string (ky s).2.1,.bool (ky s).2.2]):=by
 rcases Lib.indexB_cases s ⟨#[47]⟩with a| ⟨i,a,b⟩
 ·have d:Hid (ky s=(s,⟨#[]⟩,false)):=aa (by unfold ky;rw[if_pos a]);have c:=aa a;clear a;go_enter func337,ntmps337;go_wp2_with fail;refine(vo s _).mono ?_;rintro e g ⟨rfl,rfl⟩;rw[c.o];go_wp2;go_ret3;exact⟨by rw[d.o];rfl,aq _ _⟩
 ·have d:Hid (ky s=(s.extract 0 i,s.extract (i+1) s.size,true)):=aa (by
   unfold ky;rw[Fl (by omega),a];rfl)
  have c:=aa a;have f:(⟨#[47]⟩:abO).size=1:=rfl;rw[f]at b;have h:(0:Int)<=(i:Int):=by omega
  have j:(i:Int)<=(s.size:Int):=by omega
  have k:(0:Int)<=(i:Int)+1:=by omega
  have l:(i:Int)+1<=(s.size:Int):=by omega
  clear a f b;go_enter func337,ntmps337;go_wp2_with fail;refine(vo s _).mono ?_;rintro e g ⟨rfl,rfl⟩;rw[c.o];go_wp2;go_region;go_wp2;go_ret3;exact⟨by rw[d.o];rfl,aV (aq _ _) _⟩
theorem EL(s:abO)(w:abP)(hs:s.size<=4611686018427387904):
  abR 314 #[.string s,.string ⟨#[47]⟩] w (.tuple #[.string (ky s).1,.string (ky s).2.1,.bool (ky s).2.2]):=by
 have c:=aa hs;clear hs
 go_enter func314,ntmps314;go_wp2_with fail;refine Yg (De s _ c.o) λd a=>?_;have b:=aa a;clear a
 go_wp2;go_ret3;exact⟨rfl,b.o⟩
def AK(s:abO)(w:abP)(e:Ending)(w':abP):Prop:=(∃a b:abO,e= .returned (.tuple #[.string a,.string b,.bool (fy s)]))/\abQ w w'
theorem wo(s:abO)(w:abP)(hs:s.size<=4611686018427387904):
  Calls prog 287 #[.string s] w (AK s w):=by
 have h:=aa hs;have q:=aa (Bd s);have j:=aa (Dc (kY s));have k:Hid (fy s=(gV s&&((ky (kY s)).2.2&&(YF s&&(fp (ky (kY s)).1&&gj (ky (kY s)).2.1))))):=aa rfl;clear hs;go_enter func287,ntmps287;go_wp2_with fail;refine(rq s _ h.o).mono ?_;rintro e u ⟨rfl,rfl⟩;go_wp2_with fail;refine Yg (EL (kY s) _ (by have:=h.o;have:=q.o;omega)) λu b=>?_;have i:=aa b;clear b
 obtain⟨R,t⟩:∃R,ky (kY s)=R:=⟨_,rfl⟩;rw[t]at j k⊢;clear t;generalize kY s=r at*;obtain⟨x,y,z⟩:=R;simp only at j k⊢;cases l:gV s
 ·have a:Hid (fy s=false):=aa (by rw[k.o,l];rfl);clear l;go_wp2;go_ret3;exact⟨⟨_,_,by rw[a.o];rfl⟩,i.o⟩
 have g:Hid (fy s=(z&&(YF s&&(fp x&&gj y)))):=aa (by rw[k.o,l,aL]);clear l;cases z
 ·have a:Hid (fy s=false):=aa (by rw[g.o];rfl);go_wp2;go_ret3;exact⟨⟨_,_,by rw[a.o];rfl⟩,i.o⟩
 go_wp2_with fail;refine Yg (fk s _ h.o) λv b=>?_;have d:=aa (Yf i.o b);clear b
 cases m:YF s
 ·have a:Hid (fy s=false):=aa (by rw[g.o,m];rfl);clear m;go_wp2;go_ret3;exact⟨⟨_,_,by rw[a.o];rfl⟩,d.o⟩
 have o:Hid (fy s=(fp x&&gj y)):=aa (by rw[g.o,m,aL,aL]);clear m;go_wp2_with fail;refine Yg (lw x _ (by have:=h.o;have:=q.o;have:=j.o.1;omega)) λA b=>?_;have f:=aa (Yf d.o b);clear b
 cases c:fp x
 ·have a:Hid (fy s=false):=aa (by rw[o.o,c];rfl);clear c;go_wp2;go_ret3;exact⟨⟨_,_,by rw[a.o];rfl⟩,f.o⟩
 have p:Hid (fy s=gj y):=aa (by rw[o.o,c,aL]);clear c;go_wp2_with fail;refine Yg (qB y _ (by have:=h.o;have:=q.o;have:=j.o.2;omega)) λB b=>?_;have n:=aa (Yf f.o b);clear b
 cases c:gj y
 ·have a:Hid (fy s=false):=aa (by rw[p.o,c]);clear c;go_wp2;go_ret3;exact⟨⟨_,_,by rw[a.o];rfl⟩,n.o⟩
 have a:Hid (fy s=true):=aa (by rw[p.o,c]);clear c;go_wp2;go_ret3;exact⟨⟨_,_,by rw[a.o];rfl⟩,n.o⟩
end Go.Proofs.YtafoknnjekegkaaGreatDoor
namespace Go.Proofs.YtafoknnjekegkaaGreatDoor
open Go.RowKit Go.Proofs.Tryz
section
attribute [local go_sem ↓high] bu sD sE
attribute [local go_sem ↓] wh
attribute [local go_sem] Cv mX uw pU sR yi sQ yh sP yg pC uI pB uH pA uG py uF pu uE pm uy pj ux sY pX sX pW
theorem oI(v k:Int)(w:abP):abT 163 #[.int .i64 v,.int .i64 k] w (.bool (ir v k)):=by
 go_enter func163,ntmps163;go_wp2
 all_goals
  go_ret;refine⟨eT ?_,rfl⟩;unfold ir;by_cases a:v=4<;>by_cases b:v=5<;>simp_all<;>omega
theorem nK(k:Int)(w:abP):abT 232 #[.int .i64 k] w (.bool (jm k)):=by
 go_enter func232,ntmps232;go_wp2
 all_goals
  go_ret;refine⟨eT ?_,rfl⟩;unfold jm;by_cases a:k=8<;>by_cases b:k=10<;>simp_all
theorem zi(v k:Int)(w:abP):abT 283 #[.int .i64 v,.int .i64 k] w (.bool (pP v k)):=by
 go_enter func283,ntmps283;go_wp2
 all_goals
  go_ret;refine⟨eT ?_,rfl⟩;unfold pP;by_cases a:k=11<;>by_cases b:v=4<;>simp_all
theorem nJ(n:Int)(w:abP):abT 286 #[.int .i64 n] w (.bool (jZ n)):=by
 go_enter func286,ntmps286;go_wp2
 all_goals
  go_ret;refine⟨eT ?_,rfl⟩;unfold jZ;by_cases a:0<=n<;>by_cases b:n<3<;>simp_all<;>omega
theorem Dx(v k c:Int)(w:abP):abR 228 #[.int .i64 v,.int .i64 k,.int .i64 c] w (.bool (xF v k c)):=by
 by_cases a:v=4
 ·have g:(v==4)=true:=aK.2 a;have f:Hid (xF v k c=tq c):=aa (if_pos a);clear a;go_enter func228,ntmps228;go_wp2_with fail;refine Yg (Af c _) λh d=>?_;have b:=aa d;clear d
  go_wp2;go_ret;exact⟨by rw[f.o];rfl,by first| exact b.o| exact b.o▸aq _ _⟩
 ·have g:(v==4)=false:=ar.2 a;have f:Hid (xF v k c=may k c):=aa (Fl a);clear a;go_enter func228,ntmps228;go_wp2_with fail;refine Yg (m7 k c _) λh d=>?_;have b:=aa d;clear d
  go_wp2;go_ret;exact⟨by rw[f.o];rfl,by first| exact b.o| exact b.o▸aq _ _⟩
def sbH(v:Int)(p:Pk)(h:Hs):Hs:=
 if jm p.kind=true then {hs0 with props:=h.props,filters:=h.filters}else if pP v p.kind=true then {hs0 with props:=h.props}else {hs0 with props:=h.props,codes:=h.codes}
theorem DN(v:Int){p:Pk}(x:gz p):gz (sbQ v p):=by
 unfold sbQ;split
 ·exact⟨ag _,ag _,x.2.2.1,x.2.2.2⟩
 ·split
  ·exact⟨ag _,ag _,ag _,x.2.2.2⟩
  ·exact⟨ag _,x.2.1,ag _,x.2.2.2⟩
theorem Fp(v:Int){w:abP}{B:Nat}{p:Pk}{h:Hs}(x:PkIn w B p h):PkIn w B (sbQ v p) (sbH v p h):=by
 unfold sbQ sbH;split
 ·exact⟨Rd.nil _ _ _ _,Rd.nil _ _ _ _,x.filters,x.props,ag _,ag _,x.caps.2.2.1,x.caps.2.2.2⟩
 ·split
  ·exact⟨Rd.nil _ _ _ _,Rd.nil _ _ _ _,Rd.nil _ _ _ _,x.props,ag _,ag _,ag _,x.caps.2.2.2⟩
  ·exact⟨Rd.nil _ _ _ _,x.codes,Rd.nil _ _ _ _,x.props,ag _,x.caps.2.1,ag _,x.caps.2.2.2⟩
theorem wu(k i:Int)(l:List Pr)(A:Option Addr)(n:Nat)(w:abP):(qP #[(0,.int .i64 k),(4,.int .i64 i),(20,.slice A l.length n)]).run prog w= .ok (pkV {pk0 with kind:=k,id:=i,props:=l} {hs0 with props:=⟨A,n⟩}) w:=by kernel_rfl
theorem sK(v:Int)(p:Pk)(h:Hs)(Q:Pk)(H:Hs)(x:abP)(hq:sbQ v p=Q)(hh:sbH v p h=H)(hi:PkIn x x.heap.size p h)(hn:gz p):
  abR 218 #[pkV p h,pkV Q H] x (.bool (decide (p=sbQ v p))):=by
 subst hq hh;exact jE p (sbQ v p) h (sbH v p h) x hi (Fp v hi) hn (DN v hn)
theorem sJ(v:Int)(p:Pk)(h:Hs)(w:abP)(ip:PkIn w w.heap.size p h)(ok:PkOk p):
  abR 225 #[.int .i64 v,pkV p h] w (.bool (eH v p)):=by
 have I:=aa ok;have P:=aa ip;have D:Hid (eH v p=(!(decide (p.id<1) || (decide (65535<p.id) || (decide (v=4)&&decide (0<p.props.length))))&&(lj v p&&decide (p=sbQ v p)))):=aa rfl;have H:Hid (lj v p=if jm p.kind=true then decide (0<p.filters.length)else if pP v p.kind=true then true else decide (0<p.codes.length)):=aa rfl;have u:=aa ((aq w.heap.size w).alloc (ac _) (.cells (pkC p h) PkT));have r:=Bk.fresh w PkT (pkC p h);have k0:=(r.cell 0).trans (cI _ _);have k4:=(r.cell 4).trans (dj _ _);have X:=(r.cell 22).trans (bS _ _);have Y:=(r.cell 23).trans (bP _ _);have Z:=(r.cell 24).trans (bR _ _)
 obtain⟨W,A,V⟩:=mF w p {pk0 with kind:=p.kind,id:=p.id,props:=p.props} h {hs0 with props:=⟨h.props.a,h.props.c⟩};have j:=aa A;have U:=A.lt;have j0:=λs=>(A.bk_pw s).cell;have T:∀s,(kZ (.pointer (some ⟨w.heap.size,0,none⟩))).run prog (pw W (w.heap.size+1) s)= .ok (pkV p h) (pw W (w.heap.size+1) s):=λs=>cf (A.bk_pw s);have S:=wu p.kind p.id p.props h.props.a h.props.c;have z:Hid (∀x,abQ w x->PkIn x x.heap.size p h):=aa λx O=>(P.o.below O).wider O.size;clear ip ok A r;go_enter func225,ntmps225;by_cases M:p.id<1
 ·have f:Hid (eH v p=false):=aa (by rw[D.o,au M];rfl);go_wp2;go_ret;exact⟨by rw[f.o];rfl,u.o⟩
 by_cases N:65535<p.id
 ·have f:Hid (eH v p=false):=aa (by rw[D.o,au N,Bool.true_or,Bool.or_true];rfl);go_wp2;go_ret;exact⟨by rw[f.o];rfl,u.o⟩
 have k:=D.o;rw[ah M,ah N,nB,nB]at k
 replace k:=aa k
 have G:∀(_:decide (v=4)=false\/decide (0<p.props.length)=false),eH v p=(lj v p&&decide (p=sbQ v p)):=by
  intro B;rw[k.o];rcases B with B| B
  ·rw[B,YH,Bool.not_false,aL]
  ·rw[B,ru,Bool.not_false,aL]
 have F:=aa G;clear G D;by_cases o:v=4/\0<p.props.length
 ·have f:Hid (eH v p=false):=aa (by rw[k.o,au o.1,au o.2];rfl);have L:(v==4)=true:=aK.2 o.1;have Q:(0:Int)<(p.props.length:Int):=by have:=o.2;omega
  clear o;go_wp2;go_ret;exact⟨by rw[f.o];rfl,u.o⟩
 have m:Hid (eH v p=(lj v p&&decide (p=sbQ v p))):=aa (F.o (by
  by_cases a:v=4
  ·exact .inr (ah λb=>o ⟨a,b⟩)
  ·exact .inl (ah a)))
 have tail:∀(b4:Bool) (_:(v==4)=b4) (_:b4=true->(p.props.length:Int)<=0),True:=λ_ _ _=>trivial;clear tail F k;have K:(v==4)=false\/((v==4)=true/\¬(0:Int)<(p.props.length:Int)):=by
  by_cases a:v=4
  ·exact .inr ⟨aK.2 a,λb=>o ⟨a,by omega⟩⟩
  ·exact .inl (ar.2 a)
 clear o;have R:=aa (nK p.kind);rcases K with L| ⟨L,Q⟩
 all_goals
  go_wp2_with fail;refine Yg (nK p.kind _) λE C=>?_;subst C;cases g:jm p.kind;rotate_left
  ·have i:Hid (lj v p=decide (0<p.filters.length)):=aa (by rw[H.o,if_pos g]);have y:Hid (sbQ v p= {pk0 with kind:=p.kind,id:=p.id,props:=p.props,filters:=p.filters}):=aa (by unfold sbQ;rw[if_pos g]);have n:Hid (sbH v p h= {hs0 with props:=h.props,filters:=h.filters}):=aa (by unfold sbH;rw[if_pos g]);clear g;by_cases l:0<p.filters.length
   ·have J:(0:Int)<(p.filters.length:Int):=by omega
    have f:Hid (eH v p=decide (p=sbQ v p)):=aa (by rw[m.o,i.o,au l,aL]);clear l;go_wp2_with fail;refine Yg (sK v p h _ _ _ (y.o.trans rfl) (n.o.trans rfl) (z.o _ (j.o.kept _)) I.o.len) λE q=>?_;have t:=aa ((j.o.kept _).trans (q.mono (j.o.kept _).size));clear q
    go_wp2;go_ret;exact⟨by rw[f.o];rfl,t.o⟩
   ·have J:¬(0:Int)<(p.filters.length:Int):=by omega
    have f:Hid (eH v p=false):=aa (by rw[m.o,i.o,ah l,YH]);clear l;go_wp2;go_ret;exact⟨by rw[f.o];rfl,j.o.kept _⟩
  ·go_wp2_with fail;refine Yg (zi v p.kind _) λE C=>?_;subst C;cases d:pP v p.kind;rotate_left
   ·have i:Hid (lj v p=true):=aa (by rw[H.o,Fl (by rw[g];decide),if_pos d]);have y:Hid (sbQ v p= {pk0 with kind:=p.kind,id:=p.id,props:=p.props}):=aa (by unfold sbQ;rw[Fl (by rw[g];decide),if_pos d]);have n:Hid (sbH v p h= {hs0 with props:=h.props}):=aa (by unfold sbH;rw[Fl (by rw[g];decide),if_pos d]);have f:Hid (eH v p=decide (p=sbQ v p)):=aa (by rw[m.o,i.o,aL]);clear g d;go_wp2_with fail;refine Yg (sK v p h _ _ _ (y.o.trans rfl) (n.o.trans rfl) (z.o _ (j.o.kept _)) I.o.len) λE q=>?_;have t:=aa ((j.o.kept _).trans (q.mono (j.o.kept _).size));clear q
    go_wp2;go_ret;exact⟨by rw[f.o];rfl,t.o⟩
   ·have i:Hid (lj v p=decide (0<p.codes.length)):=aa (by rw[H.o,Fl (by rw[g];decide),Fl (by rw[d];decide)]);have y:Hid (sbQ v p= {pk0 with kind:=p.kind,id:=p.id,props:=p.props,codes:=p.codes}):=aa (by unfold sbQ;rw[Fl (by rw[g];decide),Fl (by rw[d];decide)]);have n:Hid (sbH v p h= {hs0 with props:=h.props,codes:=h.codes}):=aa (by unfold sbH;rw[Fl (by rw[g];decide),Fl (by rw[d];decide)]);clear g d;by_cases l:0<p.codes.length
    ·have J:(0:Int)<(p.codes.length:Int):=by omega
     have f:Hid (eH v p=decide (p=sbQ v p)):=aa (by rw[m.o,i.o,au l,aL]);clear l;go_wp2_with fail;refine Yg (sK v p h _ _ _ (y.o.trans rfl) (n.o.trans rfl) (z.o _ (j.o.kept _)) I.o.len) λE q=>?_;have t:=aa ((j.o.kept _).trans (q.mono (j.o.kept _).size));clear q
     go_wp2;go_ret;exact⟨by rw[f.o];rfl,t.o⟩
    ·have J:¬(0:Int)<(p.codes.length:Int):=by omega
     have f:Hid (eH v p=false):=aa (by rw[m.o,i.o,ah l,YH]);clear l;go_wp2;go_ret;exact⟨by rw[f.o];rfl,j.o.kept _⟩
theorem BT(v k:Int)(f:Fi)(w:abP)(hs:f.topic.size<=4611686018427387904):
  abR 227 #[.int .i64 v,.int .i64 k,.agg #[.string f.topic,.int .i64 f.qos,.bool f.noLocal,.bool f.asPub,.int .i64 f.handling]] w (.bool (nT v k f)):=by
 have y:=aa hs;have d:=aa ((aq w.heap.size w).alloc (ac _) (.cells #[.string f.topic,.int .i64 f.qos,.bool f.noLocal,.bool f.asPub,.int .i64 f.handling] 49));have q:=aa (Bk.fresh w 49 #[.string f.topic,.int .i64 f.qos,.bool f.noLocal,.bool f.asPub,.int .i64 f.handling]);have n:Hid (nT v k f=if k=10 then l9 f&&decide (f.qos=0)else if v=4 then l9 f&&jZ f.qos else jZ f.qos&&(jZ f.handling&& !(fy f.topic&&f.noLocal))):=aa rfl;have G:=kP;have u:=λW=>mJ f ⟨f.topic,f.qos,false,false,0⟩ W;have t:Hid (l9 f=decide (f=⟨f.topic,f.qos,false,false,0⟩)):=aa rfl;rw[<-t.o]at u;clear t hs;generalize l9 f=pl at*;go_enter func227,ntmps227;by_cases h:k=10
 ·have D:(k==10)=true:=aK.2 h;have c:Hid (nT v k f=(pl&&(f.qos==0))):=aa (by rw[n.o,if_pos h];rfl);clear h;cases pl
  ·go_wp2;go_ret;exact⟨by rw[c.o];rfl,d.o⟩
  ·go_wp2;go_ret;exact⟨by rw[c.o];rfl,d.o⟩
 have D:(k==10)=false:=ar.2 h;by_cases j:v=4
 ·have C:(v==4)=true:=aK.2 j;have c:Hid (nT v k f=(pl&&jZ f.qos)):=aa (by rw[n.o,Fl h,if_pos j]);clear h j;cases pl
  ·go_wp2;go_ret;exact⟨by rw[c.o];rfl,d.o⟩
  ·go_wp2_with fail;refine Yg (nJ f.qos _) λE x=>?_;subst x;go_wp2;go_ret;exact⟨by rw[c.o];rfl,d.o⟩
 have C:(v==4)=false:=ar.2 j;have c:Hid (nT v k f=(jZ f.qos&&(jZ f.handling&& !(fy f.topic&&f.noLocal)))):=aa (by rw[n.o,Fl h,Fl j]);clear h j n;go_wp2_with fail;refine(wo f.topic _ y.o).mono ?_;rintro e E ⟨⟨a,b,rfl⟩,s⟩;have i:=aa (Yf d.o s);have l:=aa (Yh q.o s);clear s;have z:=l.o.cell 1;have A:=l.o.cell 2;have B:=l.o.cell 4
 simp only[ay,aE,aB]at z A B;generalize fy f.topic=sh at*;go_wp2_with fail;refine Yg (nJ f.qos _) λF m=>?_;subst m;cases g:jZ f.qos
 ·have r:Hid (nT v k f=false):=aa (by rw[c.o,g];rfl);clear g;go_wp2;go_ret;exact⟨by rw[r.o];rfl,i.o⟩
 have o:Hid (nT v k f=(jZ f.handling&& !(sh&&f.noLocal))):=aa (by rw[c.o,g,aL]);clear g;go_wp2_with fail;refine Yg (nJ f.handling _) λF m=>?_;subst m;cases g:jZ f.handling
 ·have r:Hid (nT v k f=false):=aa (by rw[o.o,g];rfl);clear g;go_wp2;go_ret;exact⟨by rw[r.o];rfl,i.o⟩
 have p:Hid (nT v k f= !(sh&&f.noLocal)):=aa (by rw[o.o,g,aL]);clear g;cases sh
 ·go_wp2;go_ret;exact⟨by rw[p.o];rfl,i.o⟩
 ·go_wp2;go_ret;exact⟨by rw[p.o];rfl,i.o⟩
end
section
theorem Yz{v k:Int}{l:List Fi}{i:Nat}(hi:i<l.length):fiE v k (l.drop i)=if gj l[i].topic=false then 10 else if nT v k l[i]=false then 2 else fiE v k (l.drop (i+1)):=by
 rw[bQ hi];rfl
theorem F8{v k:Int}{l:List Int}{i:Nat}(hi:i<l.length):cdE v k (l.drop i)=if xF v k l[i]=false then 2 else cdE v k (l.drop (i+1)):=by
 rw[bQ hi];rfl
theorem lg(v:Int)(p:Pk)(h:Hs)(w:abP)(ip:PkIn w w.heap.size p h)(ok:PkOk p):
  abR 160 #[.int .i64 v,pkV p h] w (.int .i64 (sbE v p)):=by
 have H:=aa ok;have M:=aa ((St.start w).push ip);have R:Hid (sbE v p=if xY v p=false then 2 else if(aM p.kind p.props).2≠0 then(aM p.kind p.props).2
  else if fiE v p.kind p.filters≠0 then fiE v p.kind p.filters else cdE v p.kind p.codes):=aa rfl
 have HA:Hid (xY v p=(ir v p.kind&&eH v p)):=aa rfl;have t:=M.o.cell 0 rfl;have l0:=M.o.ld 0 rfl;clear ip ok;go_enter func160,ntmps160;go_wp2_with fail;refine Yg (oI v p.kind _) λw1 aJ=>?_;subst aJ;cases Q:ir v p.kind
 ·have d:Hid (sbE v p=2):=aa (by rw[R.o,if_pos (by rw[HA.o,Q];rfl)]);clear Q;go_wp2;go_ret;exact⟨by rw[d.o];rfl,M.o.kept⟩
 have J:Hid (xY v p=eH v p):=aa (by rw[HA.o,Q,aL]);clear Q HA;go_wp2_with fail;refine Yg (sJ v p h _ (M.o.into 0 rfl) H.o) λw1 B=>?_;have S:=aa (M.o.below B);clear B t l0
 have t:=S.o.cell 0 rfl;cases Y:eH v p
 ·have d:Hid (sbE v p=2):=aa (by rw[R.o,if_pos (by rw[J.o,Y])]);clear Y;go_wp2;go_ret;exact⟨by rw[d.o];rfl,S.o.kept⟩
 have D:Hid (sbE v p=if(aM p.kind p.props).2≠0 then(aM p.kind p.props).2 else if fiE v p.kind p.filters≠0 then fiE v p.kind p.filters else cdE v p.kind p.codes):=aa (by
  rw[R.o,Fl (by rw[J.o,Y];decide)])
 clear Y R J;go_wp2_with fail;refine Yg (gu p.kind p.props _ rfl H.o.props h.props.a h.props.c _ (S.o.into 0 rfl).props H.o.len.2.2.2) λw2 B=>?_;have S2:=aa (S.o.below B);clear B t
 have t:=S2.o.cell 0 rfl;obtain⟨x,r⟩:∃x,(aM p.kind p.props).2=x:=⟨_,rfl⟩;rw[r]at D⊢;clear r;by_cases r:x=0;rotate_left
 ·have d:Hid (sbE v p=x):=aa (by rw[D.o,if_pos r]);have e0:(x !=0)=true:=aA.2 r;clear r;go_wp2;go_ret;exact⟨by rw[d.o];rfl,S2.o.kept⟩
 have E:Hid (sbE v p=if fiE v p.kind p.filters≠0 then fiE v p.kind p.filters else cdE v p.kind p.codes):=aa (by rw[D.o,Fl (λy=>y r)]);have e0:(x !=0)=false:=by rw[r];rfl
 have aD:=aa H.o.len.2.2.1;have aC:=aa H.o.len.2.1;clear r D;obtain⟨n,hn⟩:∃n,p.filters.length=n:=⟨_,rfl⟩;obtain⟨m,hm⟩:∃m,p.codes.length=m:=⟨_,rfl⟩;have aj:=t 23;have u:=t 22
 rw[bP,hn]at aj;rw[bS,hm]at u;have A:=(t 0).trans (cI _ _);have HN:=aa hn;have HM:=aa hm
 have aV:n<=4611686018427387904:=by have:=aD.o;omega
 have aU:m<=4611686018427387904:=by have:=aC.o;omega
 clear hn hm t;go_wp2
 go_loopw [32] (λi wr=>∃k:Nat,k<=n/\i= .int .i64 k/\fiE v p.kind p.filters=fiE v p.kind (p.filters.drop k)/\abQ w2 wr) (λi _=>n- (intOf i).toNat)
 case atStart=>exact⟨0,by omega,rfl,by rw[Yl],aq _ _⟩
 case round=>
  obtain⟨k,Q,rfl,ah,P⟩:=hrel;have N:=aa (S2.o.below P);have HF:=aa ah;have ac:=aa P
  clear ah A u aj;have A:=(N.o.cell 0 rfl 0).trans (cI _ _);have u:=N.o.cell 0 rfl 22;rw[bS,HM.o]at u;by_cases aI:k<n
  ·have q:k<p.filters.length:=by rw[HN.o];exact aI
   obtain⟨b,o,hA,B,T,U,V,W,X⟩:=((N.o.into 0 rfl).filters).atF q;have ai:=H.o.topics p.filters[k] (iY q);have Z:=aa (HF.o.trans (Yz (v:=v) (k:=p.kind) q));generalize p.filters[k]=f at*;have ae:=aa ai;have b1:(0:Int)<=(k:Int):=by omega
   have b2:(k:Int)<(n:Int):=by omega
   clear q ai;have I:=aa (N.o.alloc (.cells #[.string f.topic,.int .i64 f.qos,.bool f.noLocal,.bool f.asPub,.int .i64 f.handling] 49));have ab:=aa (ac.o.alloc ac.o.size (.cells #[.string f.topic,.int .i64 f.qos,.bool f.noLocal,.bool f.asPub,.int .i64 f.handling] 49));have K4:=aa (Bk.fresh wr 49 #[.string f.topic,.int .i64 f.qos,.bool f.noLocal,.bool f.asPub,.int .i64 f.handling]);go_wp2_with fail;refine Yg (qB f.topic _ (by have:=ae.o;omega)) λw4 F=>?_;have O:=aa (I.o.below F);have C:=aa (Yf ab.o F);have L:=aa (Yh K4.o F);clear F A T U V W X;have A:=(O.o.cell 0 rfl 0).trans (cI _ _);cases G:gj f.topic
   ·have d:Hid (sbE v p=10):=aa (by
     have e:fiE v p.kind p.filters=10:=by rw[Z.o,if_pos G]
     rw[E.o,e,if_pos (by decide)])
    clear G;go_wp2;go_ret;exact⟨by rw[d.o];rfl,O.o.kept⟩
   have K:Hid (fiE v p.kind p.filters=if nT v p.kind f=false then 2 else fiE v p.kind (p.filters.drop (k+1))):=aa (by rw[Z.o,Fl (by rw[G];decide)]);clear G;have T:=L.o.cell 0;have U:=L.o.cell 1;have V:=L.o.cell 2;have W:=L.o.cell 3;have X:=L.o.cell 4
   simp only[ay,aE,aB]at T U V W X;go_wp2_with fail;refine Yg (BT v p.kind f _ (by have:=ae.o;omega)) λw5 l=>?_;have S6:=aa (O.o.below l);have ax:=aa (Yf C.o l);clear l T U V W X A;cases g:nT v p.kind f
   ·have d:Hid (sbE v p=2):=aa (by
     have e:fiE v p.kind p.filters=2:=by rw[K.o,if_pos g]
     rw[E.o,e,if_pos (by decide)])
    clear g;go_wp2;go_ret;exact⟨by rw[d.o];rfl,S6.o.kept⟩
   have d:Hid (fiE v p.kind p.filters=fiE v p.kind (p.filters.drop (k+1))):=aa (by rw[K.o,Fl (by rw[g];decide)]);clear g;go_wp2;go_roundw
   case rel=>
    simp only[hA]
    (repeat apply Exists.intro)
    refine⟨?_,rfl⟩;exact⟨k+1,by omega,by go_num,d.o,ax.o⟩
   case measure=>simp[intOf];omega
  ·obtain rfl:k=n:=by omega
   have d:Hid (sbE v p=cdE v p.kind p.codes):=aa (by
    have e:fiE v p.kind p.filters=0:=by rw[HF.o,<-HN.o,ox];rfl
    rw[E.o,e,Fl (λy=>y rfl)])
   clear E HF;go_wp2
   go_loopw [50] (λi wq=>∃k:Nat,k<=m/\i= .int .i64 k/\cdE v p.kind p.codes=cdE v p.kind (p.codes.drop k)/\abQ wr wq) (λi _=>m- (intOf i).toNat)
   case atStart=>exact⟨0,by omega,rfl,by rw[Yl],aq _ _⟩
   case round=>
    obtain⟨j,hj,rfl,ag,af⟩:=hrel;have I:=aa (N.o.below af);have HC:=aa ag;have ad:=aa af
    clear ag A u;have A:=(I.o.cell 0 rfl 0).trans (cI _ _);by_cases ar:j<m
    ·have q:j<p.codes.length:=by rw[HM.o];exact ar
     obtain⟨b,o,z,hA,B,hz,hc⟩:=((I.o.into 0 rfl).codes).atI q;have HZ:Hid (cdE v p.kind p.codes=if xF v p.kind z=false then 2 else cdE v p.kind (p.codes.drop (j+1))):=aa (by
      rw[HC.o,F8 q];rw[List.getElem?_eq_getElem q]at hz;rw[Option.some.inj hz])
     have b1:(0:Int)<=(j:Int):=by omega
     have b2:(j:Int)<(m:Int):=by omega
     clear q hz;go_wp2_with fail;refine Yg (Dx v p.kind z _) λw5 l=>?_;have O:=aa (I.o.below l);have C:=aa (Yf ad.o l);clear l hc A;cases g:xF v p.kind z
     ·have s:Hid (sbE v p=2):=aa (by rw[d.o,HZ.o,if_pos g]);clear g;go_wp2;go_ret;exact⟨by rw[s.o];rfl,O.o.kept⟩
     have s:Hid (cdE v p.kind p.codes=cdE v p.kind (p.codes.drop (j+1))):=aa (by rw[HZ.o,Fl (by rw[g];decide)]);clear g;go_wp2;go_roundw
     case rel=>
      simp only[hA]
      (repeat apply Exists.intro)
      refine⟨?_,rfl⟩;exact⟨j+1,by omega,by go_num,s.o,C.o⟩
     case measure=>simp[intOf];omega
    ·obtain rfl:j=m:=by omega
     have s:Hid (sbE v p=0):=aa (by rw[d.o,HC.o,<-HM.o,ox];rfl);go_wp2;go_ret;exact⟨by rw[s.o];rfl,I.o.kept⟩
end
section
def OB(w:abP)(base:Nat)(v:Value)(l:List UInt8):Prop:=
 ∃g cap,v= .slice (some ⟨g,0,none⟩) l.length cap/\base<=g/\g<w.heap.size/\l.length<=cap/\w.there g 0 cap/\w.rangeAt g 0 (bys l)
section
variable {w w':abP} {base:Nat} {v:Value} {l:List UInt8}
theorem Vx{w:abP}{g o:Nat}{a b:List Value}(ha:w.rangeAt g o a)(hb:w.rangeAt g (o+a.length) b):w.rangeAt g o (a++b):=by
 intro j u c;by_cases d:j<a.length
 ·rw[jd d]at c;exact ha j u c
 ·rw[iM (by omega)]at c;have:=hb _ u c;rwa[show o+a.length+(j- a.length)=o+j by omega]at this
theorem pG(a b:List UInt8):bys (a++b)=bys a++bys b:=by simp[bys]
theorem OB.below(h:OB w base v l)(hb:abQ w w'):OB w' base v l:=by
 obtain⟨g,cap,k,b,a,c,d,e⟩:=h;refine⟨g,cap,k,b,YU a hb.size,c,λj f=>?_,λj u i=>?_⟩
 ·rw[hb.cell (p:=⟨g,0+j,none⟩) a,hb.frozen (p:=⟨g,0+j,none⟩) a];exact d j f
 ·rw[hb.cell (p:=⟨g,0+j,none⟩) a];exact e j u i
theorem OB.rd(h:OB w base v l):∃A c,v= .slice A l.length c/\Rd w w.heap.size 1 A l.length (bys l):=by
 obtain⟨g,cap,e,f,a,i,k,b⟩:=h;refine⟨_,cap,e,by rw[nu,Y8],.inr ⟨g,0,rfl,a,λj u d=>?_⟩⟩;exact b j u d
theorem OB.block(h:OB w base v l):∀g,v.ownBlock=some g->base<=g/\g<w.heap.size:=by
 obtain⟨g,cap,rfl,b,c,d,e,f⟩:=h;intro k a;simp[Value.ownBlock]at a;subst a;exact⟨b,c⟩
theorem Uy(g:Nat):∀(vs:List Value) (o:Nat) (w:abP),w.grownBy (w.setCells g o vs) (some g)
 | [],_,w=>jy w _
 | v :: r,o,w=>by
   rw[World.setCells];exact(YR w g o v).trans (Uy g r (o+1) _)
theorem U6(w:abP)(cs:Array Value)(t:TypeId)(n:Nat)(hn:n<=cs.size):(w.alloc (.cells cs t)).there w.heap.size 0 n:=by
 intro j b;have a:=Bk.fresh w t cs;rw[bV,a.cell,a.free];exact⟨by rw[eL (by omega)];rfl,rfl⟩
theorem U9(w:abP)(cs:Array Value)(t:TypeId)(xs:List Value)(h:∀(j:Nat) (u:Value),xs[j]? =some u->cs[j]? =some u):(w.alloc (.cells cs t)).rangeAt w.heap.size 0 xs:=by
 intro j u b;have a:=Bk.fresh w t cs;rw[bV,a.cell];exact h j u b
end
section
variable {P:Program} (w:abP) {base:Nat} {v:Value} {l:List UInt8}
theorem Uw(s:abO):Lib.strCells s=bys (ls s):=by
 simp[Lib.strCells,bys,ls]
theorem Vu{g cap:Nat}(h1:base<=g)(h2:g<w.heap.size)(h4:w.there g 0 cap)(h5:w.rangeAt g 0 (bys l))(m:List UInt8)(hr:l.length+m.length<=cap):
  OB (w.setCells g l.length (bys m)) base (.slice (some ⟨g,0,none⟩) (l.length+m.length) cap) (l++m):=by
 refine⟨g,cap,by rw[List.length_append],h1,YU h2 (Uy g (bys m) l.length w).size,by rw[List.length_append];exact hr,World.there_setCells h4 g _ _,?_⟩;rw[pG];refine Vx (World.rangeAt_setCells_apart h5 g _ _ (.inr (.inl (by rw[nu];omega)))) ?_;rw[nu,bV];refine World.rangeAt_setCells_same w g _ _ λj a=>?_;have:=h4 (l.length+j) (by rw[nu]at a;omega);rwa[bV]at this
theorem Vv(e:TypeId)(m:List UInt8)(c:Nat)(hb:base<=w.heap.size)(hc:l.length+m.length<=c):
  OB (w.drew.alloc (.cells ((bys l).toArray++(bys m).toArray++Builtin.zeroCells (Value.int .u8 0).cells (c- (l.length+m.length))) e)) base (.slice (some ⟨w.heap.size,0,none⟩) (l.length+m.length) c) (l++m):=by
 have g:((bys l).toArray++(bys m).toArray++Builtin.zeroCells (Value.int .u8 0).cells (c- (l.length+m.length))).size=c:=by
  have b:(Value.int IntKind.u8 0).cells.size=1:=rfl;simp only[Array.size_append,WO,size_zeroCells,b,nu];omega
 refine⟨w.heap.size,c,by rw[List.length_append],hb,by simp,by rw[List.length_append];exact hc,?_,?_⟩
 ·exact U6 w.drew _ _ _ (by rw[g];exact ac _)
 ·refine U9 w.drew _ _ _ λj u a=>?_;rw[pG]at a;have f:=(YI.1 a).1;have d:(bys l).toArray++(bys m).toArray=(bys l++bys m).toArray:=by simp
  rw[d,Array.getElem?_append_left (by rw[WO];exact f),ay];exact a
theorem VO(t u ty e:TypeId)(ht:P.underlying t=some (.slice e))(hu:P.underlying u=some .string)(hinfo:(P.info? e).map (λi=>(i.zero,i.size,i.bytes))=some (some (.int .u8 0),1,1))
  (hown:OB w base v l)(hbase:base<=w.heap.size)(s:abO)(hbytes:l.length+s.size<=140737488355328):
  ∃v' w',(Builtin.append_ #[t,u] ty #[v,.string s]).run P w= .ok v' w'/\OB w' base v' (l++ls s)/\w.grownBy w' v.ownBlock:=by
 obtain⟨i,n,y,b,m⟩:=o8 hinfo;obtain⟨g,cap,rfl,p,q,z,f,h⟩:=hown;by_cases a:l.length+s.size<=cap
 ·have r:=Lib.run_firstCells_string (P:=P) w 1 s;have d:=run_storeCells_cells (P:=P) g l.length (Lib.strCells s) 0 w (λj c=>by
    rw[Uw,nu,aN]at c;have:=(f (l.length+j) (by omega)).1;rwa[bV]at this) (λj c=>by
    rw[Uw,nu,aN]at c;have:=(f (l.length+j) (by omega)).2;rwa[bV]at this) (Lib.strCells_oneCell s)
  rw[jV]at d;refine⟨.slice (some ⟨g,0,none⟩) (l.length+s.size) cap,_,?_,?_,Uy g (bys (ls s)) l.length w⟩
  ·rw[<-Uw];simp[Builtin.append_,run_underlying ht,run_underlying hu,sizeOf,typeInfo,n,b,Builtin.lenOf,a,r,Addr.add_lit,d]
  ·have:=Vu w p q f h (ls s) (by rw[aN];exact a);rwa[aN]at this
 ·have o:=Lib.run_append_grow_string (P:=P) w t u ty e i (.int .u8 0) ht hu n y ⟨g,0,none⟩ l.length cap (bys l) (by rw[b,nu,Y8]) (λj u c=>by rw[Addr.add_lit];exact h j u c) s (by omega) (by omega) (by rw[m];exact growslice_fits (by omega) (by omega));rw[Uw]at o;refine⟨_,_,o,?_,⟨rfl,rfl,rfl,by simp,λk x _=>UC w.drew _ k x⟩⟩;have:=Vv (base:=base) (l:=l) w e (ls s) (grownCap w (l.length+s.size) cap e) hbase (by rw[aN];exact grownCap_ge w (l.length+s.size) cap e);rw[aN]at this;exact this
theorem VP(t ty e:TypeId)(ht:P.underlying t=some (.slice e))(hinfo:(P.info? e).map (λi=>(i.zero,i.size,i.bytes))=some (some (.int .u8 0),1,1))
  (hown:OB w base v l)(hbase:base<=w.heap.size)(a:Addr)(c:Nat)(m:List UInt8)(hnews:∀j u,(bys m)[j]? =some u->w.cell? (a.add j)=some u)(hbytes:l.length+m.length<=140737488355328):
  ∃v' w',(Builtin.append_ #[t,t] ty #[v,.slice (some a) m.length c]).run P w= .ok v' w'/\OB w' base v' (l++m)/\w.grownBy w' v.ownBlock:=by
 obtain⟨i,r,A,b,p⟩:=o8 hinfo;obtain⟨g,cap,rfl,s,x,B,n,o⟩:=hown;by_cases d:l.length+m.length<=cap
 ·have q:=run_firstCells_some (P:=P) w i.size m.length a m.length c (bys m) (by rw[b,nu,Y8]) hnews;rw[b]at q;have h:=run_storeCells_cells (P:=P) g l.length (bys m) 0 w (λj f=>by
    rw[nu]at f;have:=(n (l.length+j) (by omega)).1;rwa[bV]at this) (λj f=>by
    rw[nu]at f;have:=(n (l.length+j) (by omega)).2;rwa[bV]at this) (tG m)
  rw[jV]at h;refine⟨.slice (some ⟨g,0,none⟩) (l.length+m.length) cap,_,?_,Vu w s x n o m d,Uy g (bys m) l.length w⟩;simp[Builtin.append_,run_underlying ht,sizeOf,typeInfo,r,b,Builtin.lenOf,d,q,Addr.add_lit,h]
 ·have z:=run_append_grow (P:=P) w t ty e i (.int .u8 0) ht r A ⟨g,0,none⟩ l.length cap (bys l) (by rw[b,nu,Y8]) (λj u f=>by rw[Addr.add_lit];exact o j u f) a m.length c (bys m) (by rw[b,nu,Y8]) hnews (by omega) (by omega) (by rw[p];exact growslice_fits (by omega) (by omega));exact⟨_,_,z,Vv (base:=base) (l:=l) w e m (grownCap w (l.length+m.length) cap e) hbase (grownCap_ge w (l.length+m.length) cap e),⟨rfl,rfl,rfl,by simp,λk y _=>UC w.drew _ k y⟩⟩
theorem UF{ops:Array Oper}{rest:List Oper}{o:Oper}{a:Act}{Q:Exit->Act->abP->Prop}(hgd:o.guard=none)(sl x:Operand)(t u:TypeId)
  (ho:o.op= .call {callee:=.builtin .append,args:=#[sl,x],argTypes:=#[t,u]})(base:Nat)(e:TypeId)(ht:P.underlying t=some (.slice e))(hu:P.underlying u=some .string)
  (hinfo:(P.info? e).map (λi=>(i.zero,i.size,i.bytes))=some (some (.int .u8 0),1,1))
  (v:Value)(l:List UInt8)(hs:a.eval sl=v)(hown:OB w base v l)(s:abO)(hx:a.eval x= .string s)(hbytes:l.length+s.size<=140737488355328)(hbase:base<=w.heap.size)
  (h:∀v' w',OB w' base v' (l++ls s)->w.grownBy w' v.ownBlock->wpList P ops Q rest (a.put o.dst v') w'):wpList P ops Q (o :: rest) a w:=by
 refine Y6 hgd λK d=>?_;obtain⟨v',w',f,b,c⟩:=VO (P:=P) w t u o.type e ht hu hinfo hown hbase s hbytes;unfold Oper.wp execOp;simp only[ho,resolve,invoke,builtin,Sem.run_bind,Sem.run_pure,ik,kD,fI,gC,hs,hx,f];exact d _ _ (h v' w' b c)
theorem Vo{ops:Array Oper}{rest:List Oper}{o:Oper}{a:Act}{Q:Exit->Act->abP->Prop}(hgd:o.guard=none)(sl x:Operand)(t:TypeId)
  (ho:o.op= .call {callee:=.builtin .append,args:=#[sl,x],argTypes:=#[t,t]})(base:Nat)(e:TypeId)(ht:P.underlying t=some (.slice e))
  (hinfo:(P.info? e).map (λi=>(i.zero,i.size,i.bytes))=some (some (.int .u8 0),1,1))
  (v:Value)(l:List UInt8)(hs:a.eval sl=v)(hown:OB w base v l)(ad:Addr)(c:Nat)(m:List UInt8)(hx:a.eval x= .slice (some ad) m.length c)(hnews:∀j u,(bys m)[j]? =some u->w.cell? (ad.add j)=some u)
  (hbytes:l.length+m.length<=140737488355328)(hbase:base<=w.heap.size)
  (h:∀v' w',OB w' base v' (l++m)->w.grownBy w' v.ownBlock->wpList P ops Q rest (a.put o.dst v') w'):wpList P ops Q (o :: rest) a w:=by
 refine Y6 hgd λK f=>?_;obtain⟨v',w',g,b,d⟩:=VP (P:=P) w t o.type e ht hinfo hown hbase ad c m hnews hbytes;unfold Oper.wp execOp;simp only[ho,resolve,invoke,builtin,Sem.run_bind,Sem.run_pure,ik,kD,fI,gC,hs,hx,g];exact f _ _ (h v' w' b d)
theorem VQ{w:abP}{B n:Nat}{ad:Addr}{xs:List Value}(hr:Rd w B 1 (some ad) n xs):∀(j:Nat) (u:Value),xs[j]? =some u->w.cell? (ad.add j)=some u:=by
 rcases hr.2 with c| ⟨b,o,h,_,d⟩
 ·subst c;intro j u a;simp at a
 ·cases h;intro j u a;rw[Addr.add_lit];exact d j u a
theorem UN{ops:Array Oper}{rest:List Oper}{o:Oper}{a:Act}{Q:Exit->Act->abP->Prop}(hgd:o.guard=none)(sl x:Operand)(t:TypeId)
  (ho:o.op= .call {callee:=.builtin .append,args:=#[sl,x],argTypes:=#[t,t]})(base:Nat)(e:TypeId)(ht:P.underlying t=some (.slice e))
  (hinfo:(P.info? e).map (λi=>(i.zero,i.size,i.bytes))=some (some (.int .u8 0),1,1))
  (v:Value)(l:List UInt8)(hs:a.eval sl=v)(hown:OB w base v l)(B:Nat)(ad:Addr)(c:Nat)(m:List UInt8)(hx:a.eval x= .slice (some ad) m.length c)(hr:Rd w B 1 (some ad) m.length (bys m))
  (hbytes:l.length+m.length<=140737488355328)(hbase:base<=w.heap.size)
  (h:∀v' w',OB w' base v' (l++m)->w.grownBy w' v.ownBlock->wpList P ops Q rest (a.put o.dst v') w'):wpList P ops Q (o :: rest) a w:=
 Vo w hgd sl x t ho base e ht hinfo v l hs hown ad c m hx (VQ hr) hbytes hbase h
theorem OB.alloc{w:abP}{base:Nat}{v:Value}{l:List UInt8}(h:OB w base v l)(o:Obj):OB (w.alloc o) base v l:=h.below ((aq _ _).alloc (ac _) o)
theorem V7(src dst e:TypeId)(s:abO){d:TypeDesc}(hs:P.underlying src=some d)(hd:P.underlying dst=some (.slice e))(he:P.underlying e=some (.int .u8)):
  ∃v w',(convert src dst (.string s)).run P w= .ok v w'/\OB w' w.heap.size v (ls s)/\abQ w w':=by
 refine⟨_,_,Lib.run_convert_string_bytes w src dst e s hs hd he,?_,?_⟩
 ·have a:=Lib.bytesWorld_at_new w e s;have f:=grownCap_ge w s.size 0 e;have h:(Lib.bytesCells w e s).size=grownCap w s.size 0 e:=by
   simp[Lib.bytesCells];have:s.data.size=s.size:=rfl;omega
  refine⟨w.heap.size,grownCap w s.size 0 e,by rw[aN],ac _,by rw[Lib.bytesWorld_size];omega,by rw[aN];exact f,λj c=>?_,λj u b=>?_⟩
  ·rw[bV,cell_of_row _ _ _ _ _ _ a];refine⟨by rw[eL (by omega)];rfl,?_⟩;simp only[World.frozen?,a,Kz,Ip];left;omega
  ·rw[bV,cell_of_row _ _ _ _ _ _ a];have c:=(YI.1 b).1;rw[nu,aN]at c;unfold Lib.bytesCells;rw[Array.getElem?_append_left (by rw[Array.size_map];exact c),Array.getElem?_map];unfold bys at b;rw[Zr]at b;rw[<-b,show(ls s)[j]? =s.data[j]? from Array.getElem?_toList]
 ·exact⟨rfl,rfl,rfl,by rw[Lib.bytesWorld_size];omega,λk g=>Lib.bytesWorld_at_old w e s k g⟩
end
end
theorem Bu(s:abO):(dJ s).2.1<=s.size/\(dJ s).1.size<=65535:=by
 unfold dJ;split
 ·exact⟨ag _,ag _⟩
 ·split
  ·exact⟨ag _,ag _⟩
  ·refine⟨by show 2+br s 0 0 2<=s.size;omega,?_⟩;rw[aj];have:=gU s 0 0 (ag _);omega
theorem uq(s:abO):(ab0 s).2.1<=s.size/\(ab0 s).1.size<=65535:=by
 unfold ab0;split
 ·exact⟨ag _,ag _⟩
 ·exact Bu s
def rbC(t:abO)(a:Nat)(e:Int):abO×Nat×Int:=if e≠0 then(⟨#[]⟩,a,e)else((dJ (t.extract a t.size)).1,a+(dJ (t.extract a t.size)).2.1,(dJ (t.extract a t.size)).2.2)
def rtC(t:abO)(a:Nat)(e:Int):abO×Nat×Int:=if e≠0 then(⟨#[]⟩,a,e)else((ab0 (t.extract a t.size)).1,a+(ab0 (t.extract a t.size)).2.1,(ab0 (t.extract a t.size)).2.2)
theorem yO{t:abO}{a:Nat}{e:Int}(he:e≠0):Y3 t a e=(⟨#[]⟩,a,e):=by
 unfold Y3;rw[fY he];exact fY he
theorem xP{t:abO}{a:Nat}{e:Int}(he:e≠0):(fX t a e).2.2=e:=by
 unfold fX;rw[yO he];simp only;split
 ·rfl
 ·exact Fl he
theorem Fu{t:abO}{a:Nat}(h:a<=t.size)(e:Int):(rbC t a e).2.2=(Y3 t a e).2.2/\((Y3 t a e).2.2=0->rbC t a e=Y3 t a e):=by
 by_cases c:e=0;rotate_left
 ·have b:rbC t a e=Y3 t a e:=by rw[yO c];exact if_pos c
  exact⟨by rw[b],λ_=>b⟩
 subst c;have m:(t.extract a t.size).size=t.size- a:=by rw[aj];omega
 by_cases j:t.size<a+2
 ·have b:rbC t a 0=Y3 t a 0:=by
   unfold rbC Y3;rw[Fl (λx=>x rfl),show(2:Int)=((2:Nat):Int)from rfl,kH (by omega)];simp only;rw[fY (by decide)];unfold dJ;rw[if_pos (by omega)];rfl
  exact⟨by rw[b],λ_=>b⟩
 have i:br (t.extract a t.size) 0 0 2=br t a 0 2:=by
  unfold br;rw[show(2:Int)=((2:Nat):Int)from rfl,dZ (t:=t.extract a t.size) (by omega),dZ (t:=t) (by omega)];simp only;rw[Ym,Ym,ju,Yl]
 have f:Y3 t a 0=aH t (a+2) 0 (br t a 0 2:Nat):=by
  unfold Y3;rw[show aH t a 0 2=(t.extract a (a+2),a+2,0)from dZ (k:=2) (by omega)]
 have g:rbC t a 0=((dJ (t.extract a t.size)).1,a+(dJ (t.extract a t.size)).2.1,(dJ (t.extract a t.size)).2.2):=Fl (λx=>x rfl);rw[f,g];unfold dJ;rw[Fl (by omega),i];generalize br t a 0 2=n;by_cases l:t.size<a+2+n
 ·rw[kH (by omega),if_pos (by omega)];exact⟨rfl,λx=>by cases x⟩
 ·rw[dZ (by omega),Fl (by omega)];refine⟨rfl,λ_=>?_⟩;have d:(t.extract a t.size).extract 2 (2+n)=t.extract (a+2) (a+2+n):=eX (by
   rw[Ym,Ym,ju,ab2])
  simp only;rw[d,Nat.add_assoc]
theorem Fq{t:abO}{a:Nat}(h:a<=t.size)(e:Int):(rtC t a e).2.2=(fX t a e).2.2/\((fX t a e).2.2=0->rtC t a e=fX t a e):=by
 by_cases f:e=0;rotate_left
 ·have o:(rtC t a e).2.2=e:=by rw[show rtC t a e=(⟨#[]⟩,a,e)from if_pos f]
  exact⟨by rw[o,xP f],λx=>absurd ((xP f).symm.trans x) f⟩
 subst f;have p:rtC t a 0=((ab0 (t.extract a t.size)).1,a+(ab0 (t.extract a t.size)).2.1,(ab0 (t.extract a t.size)).2.2):=Fl (λx=>x rfl);have l:rbC t a 0=((dJ (t.extract a t.size)).1,a+(dJ (t.extract a t.size)).2.1,(dJ (t.extract a t.size)).2.2):=Fl (λx=>x rfl);obtain⟨m,n⟩:=Fu h 0;rw[p];by_cases b:(Y3 t a 0).2.2=0
 ·have g:=n b;rw[l]at g;have k:(dJ (t.extract a t.size)).1=(Y3 t a 0).1:=by rw[<-g]
  have i:(dJ (t.extract a t.size)).2.2=0:=by rw[<-b,<-g]
  by_cases j:YF (Y3 t a 0).1=true
  ·have d:ab0 (t.extract a t.size)=dJ (t.extract a t.size):=by
    unfold ab0;rw[Fl (λy=>by rw[k,j]at y;cases y.2)]
   have c:fX t a 0=Y3 t a 0:=by unfold fX;rw[if_pos j]
   rw[d,c,<-g];exact⟨rfl,λ_=>rfl⟩
  ·have d:ab0 (t.extract a t.size)=(⟨#[]⟩,0,6):=by
    unfold ab0;rw[if_pos ⟨i,by rw[k];simpa using j⟩]
   have c:(fX t a 0).2.2=6:=by
    unfold fX;rw[Fl j];simp only;rw[b];rfl
   rw[d,c];exact⟨rfl,λx=>by cases x⟩
 ·have i:(dJ (t.extract a t.size)).2.2=(Y3 t a 0).2.2:=by rw[<-m,l]
  have d:ab0 (t.extract a t.size)=dJ (t.extract a t.size):=by
   unfold ab0;rw[Fl (λy=>b (i.symm.trans y.1))]
  have c:(fX t a 0).2.2=(Y3 t a 0).2.2:=by
   unfold fX;simp only;split
   ·rfl
   ·exact Fl b
  rw[d,c];exact⟨i,λx=>absurd x b⟩
theorem Bt(kind:Int)(s:abO):(aZ kind s).2.1<=s.size:=by
 by_cases h:(aZ kind s).2.2=0
 ·exact(fd (kind:=kind) (s:=s) (l:=(aZ kind s).1) (n:=(aZ kind s).2.1) (by rw[<-h])).2.2
 ·rw[fZ h];exact ag _
theorem Ec(v k:Int){t:abO}{a:Nat}(e:Int)(h:a<=t.size):(fv v k t a e).2.1<=t.size:=by
 unfold fv;split
 ·exact h
 ·have:=Bt k (t.extract a t.size);rw[aj]at this;simp only;omega
theorem pS(v:Int)(w:abP):abT 21 #[.int .i64 v] w (.bool (YG v)):=by
 have d:Hid (YG v=decide (v=4\/v=5)):=aa rfl;by_cases a:v=4
 ·have b:Hid (YG v=true):=aa (by rw[d.o];exact au (.inl a));have f:(v==4)=true:=aK.2 a;clear a;go_enter func21,ntmps21;go_wp2;go_ret;exact⟨by rw[b.o];rfl,rfl⟩
 have f:(v==4)=false:=ar.2 a;by_cases c:v=5
 ·have b:Hid (YG v=true):=aa (by rw[d.o];exact au (.inr c));have g:(v==5)=true:=aK.2 c;clear a c;go_enter func21,ntmps21;go_wp2;go_ret;exact⟨by rw[b.o];rfl,rfl⟩
 ·have b:Hid (YG v=false):=aa (by rw[d.o];exact ah (by omega));have g:(v==5)=false:=ar.2 c;clear a c;go_enter func21,ntmps21;go_wp2;go_ret;exact⟨by rw[b.o];rfl,rfl⟩
