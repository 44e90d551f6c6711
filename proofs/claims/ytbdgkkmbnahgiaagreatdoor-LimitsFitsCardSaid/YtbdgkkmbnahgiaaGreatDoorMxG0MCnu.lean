/- A part of what the laws stand on: MCnu. -/
import Derived.Test.YtbdgkkmbnahgiaaGreatDoorMxG0PubD
set_option maxRecDepth 10000
set_option maxHeartbeats 8000000
namespace Go.Proofs.YtbdgkkmbnahgiaaGreatDoor
open Go.RowKit Go.Proofs.Tryz
section
abbrev lP:TypeId:=230
structure BX (w:World) (gr gc:Nat) (v:Int) (t:ByteArray) (a:Nat) (e:Int) (x:World):Prop where
 mods:w.grownBy x (some gc)
 box:Bk x gr lP #[.pointer (some ⟨gc,0,none⟩),.int .i64 v]
 cur:Cur x gc t a e
 ne:gr≠gc
section
variable {w x y:World} {gr gc:Nat} {v:Int} {t:ByteArray} {a a':Nat} {e e':Int}
theorem BX.start(h:Cur w gc t a e)(v:Int):BX w w.heap.size gc v t a e (w.alloc (.cells #[.pointer (some ⟨gc,0,none⟩),.int .i64 v] lP)):=
 ⟨hJ ((aq _ _).alloc (ac _) _) _,Bk.fresh _ _ _,h.below ((aq _ _).alloc (ac _) _),by have:=h.lt;omega⟩
theorem BX.below(h:BX w gr gc v t a e x)(hb:Below x.heap.size x y):BX w gr gc v t a e y:=
 ⟨h.mods.trans (hJ hb _),h.box.below hb h.box.lt,h.cur.below hb,h.ne⟩
theorem BX.turn(h:BX w gr gc v t a e x)(hc:Cur y gc t a' e')(hm:x.grownBy y (some gc)):BX w gr gc v t a' e' y:=
 ⟨h.mods.trans hm,h.box.mods (S:=fun z=>z=gc) (Mods.of_grown hm rfl) h.ne,hc,h.ne⟩
theorem BX.drewN(h:BX w gr gc v t a e x)(n:Nat):BX w gr gc v t a e (x.drewN n):=h.below (aV (aq _ _) n)
end
abbrev SB(gr gc:Nat)(v:Int)(w0 x:World):Prop:=x.cell? ⟨gr,0,none⟩=some (.pointer (some ⟨gc,0,none⟩))/\x.cell? ⟨gr,1,none⟩=some (.int .i64 v)/\w0.grownBy x (some gc)
theorem SB.below{gr gc:Nat}{v:Int}{w0 x y:World}(h:SB gr gc v w0 x)(hb:Below x.heap.size x y):SB gr gc v w0 y:=
 ⟨(hb.cell (p:=⟨gr,0,none⟩) (eY _ _ h.1)).trans h.1,(hb.cell (p:=⟨gr,1,none⟩) (eY _ _ h.2.1)).trans h.2.1,h.2.2.trans (hJ hb _)⟩
theorem SB.turn{gr gc:Nat}{v:Int}{w0 x y:World}(h:SB gr gc v w0 x)(hm:x.grownBy y (some gc))(hne:gr≠gc):SB gr gc v w0 y:=by
 have hl:=eY _ _ h.1;have hb:y.heap[gr]? =x.heap[gr]? :=(Mods.of_grown (S:=fun z=>z=gc) hm rfl).block gr hl hne;exact⟨(iG (a:=⟨gr,0,none⟩) hb).trans h.1,(iG (a:=⟨gr,1,none⟩) hb).trans h.2.1,h.2.2.trans hm⟩
theorem BX.sb{w x:World}{gr gc:Nat}{v:Int}{t:ByteArray}{a:Nat}{e:Int}(h:BX w gr gc v t a e x):SB gr gc v x x:=⟨h.box.cell 0,h.box.cell 1,lz _ _⟩
theorem gM(gc a:Nat)(t:ByteArray)(e v:Int)(b:Bool)(n:Int)(w:World)(h:Cur w gc t a e):
  Calls prog 268 #[.agg #[.pointer (some ⟨gc,0,none⟩),.int .i64 v],.bool b,.int .i64 n] w fun e' w'=>e'= .returned (.tuple #[])/\Cur w' gc t a (if b=true then e else fh e n)/\w.grownBy w' (some gc):=by
 have HX:=aa (BX.start h v);clear h;go_enter func268,ntmps268;cases b
 ·go_wp2_with fail
  refine(cB gc a t e n _ HX.o.cur).mono ?_;rintro e' w2 ⟨rfl,hc,hm⟩;have HY:=aa (HX.o.turn hc hm);clear hc hm;go_wp2
  go_end0
  exact⟨rfl,HY.o.cur,HY.o.mods⟩
 ·go_wp2
  go_end0
  exact⟨rfl,HX.o.cur,HX.o.mods⟩
theorem jB(gc a:Nat)(t:ByteArray)(e v:Int)(w:World)(h:Cur w gc t a e):
  Calls prog 332 #[.agg #[.pointer (some ⟨gc,0,none⟩),.int .i64 v]] w fun e' w'=>e'= .returned (.string (eB t a e).1)/\Cur w' gc t (eB t a e).2.1 (eB t a e).2.2/\w.grownBy w' (some gc):=by
 have HX:=aa (BX.start h v);have hlt:=gU t a e h.at_most.1;have HE:Hid (eB t a e=aH t (aH t a e 2).2.1 (aH t a e 2).2.2 (br t a e 2:Nat)):=aa rfl;clear h;go_enter func332,ntmps332
 go_wp2_with fail
 refine(dR gc a t e 2 _ HX.o.cur (by decide)).mono ?_;rintro e' w2 ⟨rfl,hc,hm⟩;have HY:=aa (HX.o.turn hc hm);clear hc hm;generalize br t a e 2=n at*;generalize (aH t a e 2).2.1=a1 at*;generalize (aH t a e 2).2.2=e1 at*;have hw:IntKind.i64.wrap (n:Int)=(n:Int):=by rw[aQ];omega
 have k0:w2.cell? ⟨w.heap.size,0,none⟩=some (.pointer (some ⟨gc,0,none⟩)):=HY.o.box.cell 0;clear hlt
 go_wp2_with fail
 refine(eo gc a1 t e1 n _ HY.o.cur).mono ?_;rintro e' w3 ⟨rfl,hc,hm⟩;have HZ:=aa (HY.o.turn hc hm);clear hc hm;go_wp2;go_ret;rw[HE.o];exact⟨rfl,HZ.o.cur,HZ.o.mods⟩
theorem ph(gc a:Nat)(t:ByteArray)(e v:Int)(w:World)(h:Cur w gc t a e):
  Calls prog 331 #[.agg #[.pointer (some ⟨gc,0,none⟩),.int .i64 v]] w fun e' w'=>e'= .returned (.string (fX t a e).1)/\Cur w' gc t (fX t a e).2.1 (fX t a e).2.2/\w.grownBy w' (some gc):=by
 have HX:=aa (BX.start h v);have HL:=aa (nw t a e h.at_most.1);have HE:Hid (fX t a e=((eB t a e).1,(eB t a e).2.1,if bN (eB t a e).1=true then(eB t a e).2.2 else fh (eB t a e).2.2 6)):=aa rfl;clear h;go_enter func331,ntmps331
 go_wp2_with fail
 refine(jB gc a t e v _ HX.o.cur).mono ?_;rintro e' w2 ⟨rfl,hc,hm⟩;have HY:=aa (HX.o.turn hc hm);clear hc hm;generalize eB t a e=r at*;obtain⟨s,a1,e1⟩:=r;simp only at HY HL HE⊢;have hne:w.heap.size≠gc:=HY.o.ne;have hsb:=HY.o.sb
 go_wp2_with fail
 go_region_held3 (fun x=>x.cell? ⟨w.heap.size,0,none⟩=some (.pointer (some ⟨gc,0,none⟩))/\x.cell? ⟨w.heap.size,1,none⟩=some (.int .i64 v)/\w2.grownBy x (some gc))
  (first| exact(SB.below hsb (aV (aq _ _) _)) | exact SB.below (by assumption) hbv| exact SB.turn (by assumption) hmu hne| go_keep)
  (first| (go_at_call 107;refine(fk s _ (by have:=HL.o;omega)).mono ?_;rintro e x1 ⟨rfl,hbv⟩)
        | (go_at_call 268;refine(gM gc a1 t e1 v _ 6 _ ((HY.o.drewN 1).cur.below hbv)).mono ?_;rintro e x2 ⟨rfl,hcu,hmu⟩))
 have HM:w2.grownBy x2 (some gc):=(show SB w.heap.size gc v w2 x2 by assumption).2.2;have HF:=aa (And.intro hcu (HY.o.mods.trans HM));clear hcu HM hmu hbv hsb hne;go_wp2;go_ret;rw[HE.o];exact⟨rfl,HF.o.1,HF.o.2⟩
def Fc(g:Nat)(t:ByteArray)(r:List Pr×Nat×Int)(w:World)(e:Ending)(w':World):Prop:=
 ∃A c,e= .returned (.slice A r.1.length c)/\r.1.length<=c/\Rd w' w'.heap.size 4 A r.1.length (prs r.1)/\Cur w' g t r.2.1 r.2.2/\w.grownBy w' (some g)
theorem ur(k:Int)(s:ByteArray):(aZ k s).2.1<=s.size:=by
 by_cases h0:(aZ k s).2.2=0
 ·exact(fd (kind:=k) (s:=s) (l:=(aZ k s).1) (n:=(aZ k s).2.1) (by rw[<-h0])).2.2
 ·rw[fZ h0];exact ag _
theorem qh(gc a:Nat)(t:ByteArray)(e v kind:Int)(w:World)(h:Cur w gc t a e)(ht:t.size<=140737488351232):
  Calls prog 330 #[.agg #[.pointer (some ⟨gc,0,none⟩),.int .i64 v],.int .i64 kind] w (Fc gc t (fv v kind t a e) w):=by
 have HX:=aa (BX.start h v);have HT:=aa ht;have HE:Hid (fv v kind t a e=if v=4\/e≠0 then([],a,e)else((aZ kind (t.extract a t.size)).1,a+(aZ kind (t.extract a t.size)).2.1,(aZ kind (t.extract a t.size)).2.2)):=aa rfl;have HAT:=aa h.at_most;clear h ht;go_enter func330,ntmps330
 by_cases h4:v=4
 ·have e4:(v==4)=true:=aK.2 h4;have HF:Hid (fv v kind t a e=([],a,e)):=aa (by rw[HE.o,if_pos (.inl h4)]);clear h4;go_wp2;go_ret;rw[HF.o];exact⟨none,0,rfl,ac _,Rd.nil _ _ _ _,HX.o.cur,HX.o.mods⟩
 have e4:(v==4)=false:=ar.2 h4
 go_wp2_with fail
 refine(dG gc a t e _ HX.o.cur).mono ?_;rintro e' w2 ⟨rfl,rfl⟩
 by_cases he:e=0
 rotate_left
 ·have e5:(e !=0)=true:=aA.2 he;have HF:Hid (fv v kind t a e=([],a,e)):=aa (by rw[HE.o,if_pos (.inr he)]);clear h4 he;go_wp2;go_ret;rw[HF.o];exact⟨none,0,rfl,ac _,Rd.nil _ _ _ _,HX.o.cur,HX.o.mods⟩
 have HF:Hid (fv v kind t a e=((aZ kind (t.extract a t.size)).1,a+(aZ kind (t.extract a t.size)).2.1,(aZ kind (t.extract a t.size)).2.2)):=aa (by rw[HE.o,ae (fun x=>x.elim h4 (fun y=>y he))]);subst he;clear h4
 go_wp2_with fail
 refine(jG gc a t 0 _ HX.o.cur).mono ?_;rintro e' w2 ⟨rfl,hb⟩;have HY:=aa (HX.o.below hb);clear hb
 have HZ:Hid ((t.extract a t.size).size<=140737488351232):=aa (by rw[aj];have:=HT.o;omega)
 go_wp2_with fail
 refine(kl kind _ _ HZ.o).mono ?_;rintro e' w3 ⟨A,c,rfl,hcap,hrd,hb⟩;have HU:=aa (HY.o.below hb);clear hb
 have HLE:=aa (ur kind (t.extract a t.size));have HBAD:Hid ((aZ kind (t.extract a t.size)).2.2≠0->(aZ kind (t.extract a t.size)).2.1=0):=aa fun h0=>by rw[fZ h0]
 have HSX:Hid ((t.extract a t.size).size=t.size- a):=aa (by rw[aj];omega);rw[HSX.o]at HLE;have HCAP:=aa hcap;have HRD:=aa hrd
 clear hcap hrd HZ HSX;generalize aZ kind (t.extract a t.size)=r at*;obtain⟨l,n,x⟩:=r;simp only at HF HLE HBAD HCAP HRD⊢;have k0:w3.cell? ⟨w.heap.size,0,none⟩=some (.pointer (some ⟨gc,0,none⟩)):=HU.o.box.cell 0
 go_wp2_with fail
 refine(cB gc a t 0 x _ HU.o.cur).mono ?_;rintro e' w4 ⟨rfl,hc,hm⟩;rw[if_pos rfl]at hc;have HV:=aa (HU.o.turn hc hm);have HRD2:=aa ((HRD.o.other HU.o.cur.1 (gw _ _ _) hm (ac _)).wider hm.size);clear hc hm k0;have k0:w4.cell? ⟨w.heap.size,0,none⟩=some (.pointer (some ⟨gc,0,none⟩)):=HV.o.box.cell 0
 go_wp2_with fail
 refine(eo gc a t x n _ HV.o.cur).mono ?_;rintro e' w5 ⟨rfl,hc,hm⟩;have HTK:Hid ((aH t a x n).2=(a+n,x)):=aa (by
  by_cases hx:x=0
  ·subst hx;rw[dZ (by have:=HLE.o;have:=HAT.o;omega)]
  ·rw[fY hx,HBAD.o hx];rfl)
 rw[HTK.o]at hc;have HW:=aa (HV.o.turn hc hm);have HRD3:=aa ((HRD2.o.other HV.o.cur.1 (gw _ _ _) hm (ac _)).wider hm.size);clear hc hm k0;go_wp2;go_ret;rw[HF.o];exact⟨A,c,rfl,HCAP.o,HRD3.o,HW.o.cur,HW.o.mods⟩
theorem vy:∀f:Fin 256,(bits BinOp.and IntKind.i64 (f.1:Int) 1 !=0)=decide (f.1% 2=1)/\(bits BinOp.and IntKind.i64 (f.1:Int) 2 !=0)=decide (f.1/ 2% 2=1)/\
  (bits BinOp.and IntKind.i64 (f.1:Int) 4 !=0)=decide (f.1/ 4% 2=1)/\(bits BinOp.and IntKind.i64 (f.1:Int) 4==0)= !decide (f.1/ 4% 2=1)/\
  (bits BinOp.and IntKind.i64 ((f.1:Int) / 8) 3==3)=decide (f.1/ 8% 4=3)/\bits BinOp.and IntKind.i64 ((f.1:Int) / 8) 3=((f.1/ 8% 4:Nat):Int)/\(bits BinOp.and IntKind.i64 ((f.1:Int) / 8) 7 !=0)=decide (f.1/ 8% 8≠0)/\
  (bits BinOp.and IntKind.i64 (f.1:Int) 32 !=0)=decide (f.1/ 32% 2=1)/\(bits BinOp.and IntKind.i64 (f.1:Int) 64 !=0)=decide (f.1/ 64% 2=1)/\(bits BinOp.and IntKind.i64 (f.1:Int) 64==0)= !decide (f.1/ 64% 2=1)/\
  (bits BinOp.and IntKind.i64 (f.1:Int) 128 !=0)=decide (f.1/ 128% 2=1):=by decide+kernel
theorem CI(gc:Nat)(v:Int)(f:Nat)(hf:f<256)(w:World):
  Calls prog 329 #[.agg #[.pointer (some ⟨gc,0,none⟩),.int .i64 v],.int .i64 f] w fun e w'=>e= .returned (.bool (tu v f))/\Below w.heap.size w w':=by
 obtain⟨g1,g2,g3,g4,g5,g6,g7,g8,g9,g10,g11⟩:=vy ⟨f,hf⟩;simp only at g1 g2 g3 g4 g5 g6 g7 g8 g9 g10 g11;have HE:Hid (tu v f=(!(decide (f% 2=1) || decide (f/ 8% 4=3) || (!decide (f/ 4% 2=1)&&decide (f/ 8% 8≠0)))&&(decide (v=5) || !decide (f/ 64% 2=1) || decide (f/ 128% 2=1)))):=aa rfl;have HB:=aa ((aq w.heap.size w).alloc (ac _) (.cells #[.pointer (some ⟨gc,0,none⟩),.int .i64 v] 230));clear g2 g3 g6 g8 g9;have e5:(v==5)=decide (v=5):=rfl;generalize decide (f% 2=1)=b1 at*;generalize decide (f/ 8% 4=3)=b2 at*;generalize decide (f/ 4% 2=1)=b3 at*;generalize decide (f/ 8% 8≠0)=b4 at*;generalize decide (v=5)=b5 at*;generalize decide (f/ 64% 2=1)=b6 at*;generalize decide (f/ 128% 2=1)=b7 at*;generalize tu v f=R at*;have hf0:(0:Int)<=(f:Int):=by omega
 go_enter func329,ntmps329;cases b1
 ·cases b2
  ·cases b3
   ·cases b4
    ·cases b5
     ·cases b6
      ·go_wp2;go_ret;exact⟨by rw[HE.o];rfl,HB.o⟩
      ·go_wp2;go_ret;exact⟨by rw[HE.o];rfl,HB.o⟩
     ·go_wp2;go_ret;exact⟨by rw[HE.o];rfl,HB.o⟩
    ·go_wp2;go_ret;exact⟨by rw[HE.o];rfl,HB.o⟩
   ·cases b5
    ·cases b6
     ·go_wp2;go_ret;exact⟨by rw[HE.o];rfl,HB.o⟩
     ·go_wp2;go_ret;exact⟨by rw[HE.o];rfl,HB.o⟩
    ·go_wp2;go_ret;exact⟨by rw[HE.o];rfl,HB.o⟩
  ·go_wp2;go_ret;exact⟨by rw[HE.o];rfl,HB.o⟩
 ·go_wp2;go_ret;exact⟨by rw[HE.o];rfl,HB.o⟩
end
section
attribute [local go_sem ↓] bD bF bH bI bu
attribute [local go_sem] bc aD bh bg bK bJ bd aY be aO ax cI dC dB dt dj di dA dr dp dn bW co bO bZ bX cz cy cw cu ct cC cn bS bP bR
theorem xf{w x:World}{g:Nat}(h:Mods (fun z=>z=g) w x):w.grownBy x (some g):=⟨h.os,h.tape,h.output,h.size,fun i hi hn=>h.block i hi (fun e=>hn (by rw[e]))⟩
theorem Ae{w x:World}{g:Nat}(h:w.grownBy x (some g)){b:Nat}(hb:w.heap.size<=b)(i:Nat)(u:Value):w.grownBy (x.setCell ⟨b,i,none⟩ u) (some g):=
 xf ((Mods.of_grown (S:=fun z=>z=g) h rfl).set b i (.inr hb) u)
theorem PkIn.blk{w w':World}{g:Nat}{p:Pk}{h:Hs}{t:TypeId}{cs:Array Value}(hi:PkIn w w.heap.size p h)(h1:p.codes=[])(h2:p.filters=[])(hb:Bk w g t cs)(hcs:∀(i:Nat) (n:Int),cs[i]? ≠some (Value.int IntKind.u32 n))(hm:w.grownBy w' (some g)):PkIn w' w'.heap.size p h:=
 ⟨(hi.wp.other hb hcs hm (ac _)).wider hm.size,(hi.codes.grown hm (ac _) (fun _ _ _ hx=>absurd (by rw[h1];rfl) hx)).wider hm.size,
   (hi.filters.grown hm (ac _) (fun _ _ _ hx=>absurd (by rw[h2];rfl) hx)).wider hm.size,(hi.props.other hb hcs hm (ac _)).wider hm.size,hi.caps⟩
structure CR (w:World) (gc:Nat) (v:Int) (p:Pk) (h:Hs) (t:ByteArray) (a:Nat) (e:Int) (x:World):Prop where
 bx:BX w w.heap.size gc v t a e x
 res:Bk x (w.heap.size+1) PkT (pkC pk0 hs0)
 pk:Bk x (w.heap.size+1+1) PkT (pkC p h)
 into:PkIn x x.heap.size p h
 flat:p.codes=[]/\p.filters=[]
 lt:gc<w.heap.size
section
variable {w x y:World} {gc:Nat} {v:Int} {p p':Pk} {h h':Hs} {t:ByteArray} {a a':Nat} {e e':Int}
theorem CR.below(c:CR w gc v p h t a e x)(hb:Below x.heap.size x y):CR w gc v p h t a e y:=
 ⟨c.bx.below hb,c.res.below hb c.res.lt,c.pk.below hb c.pk.lt,c.into.next hb,c.flat,c.lt⟩
theorem CR.drewN(c:CR w gc v p h t a e x)(n:Nat):CR w gc v p h t a e (x.drewN n):=c.below (aV (aq _ _) n)
theorem CR.turn(c:CR w gc v p h t a e x)(hc:Cur y gc t a' e')(hm:x.grownBy y (some gc)):CR w gc v p h t a' e' y:=
 ⟨c.bx.turn hc hm,c.res.mods (S:=fun z=>z=gc) (Mods.of_grown hm rfl) (by have:=c.lt;omega),c.pk.mods (S:=fun z=>z=gc) (Mods.of_grown hm rfl) (by have:=c.lt;omega),
  c.into.blk c.flat.1 c.flat.2 c.bx.cur.1 (gw _ _ _) hm,c.flat,c.lt⟩
theorem CR.put(c:CR w gc v p h t a e x)(i:Nat)(u:Value)(he:(pkC p h).setIfInBounds i u=pkC p' h')(hf:p'.codes=[]/\p'.filters=[])
  (hi:PkIn (x.setCell ⟨w.heap.size+1+1,i,none⟩ u) (x.setCell ⟨w.heap.size+1+1,i,none⟩ u).heap.size p' h'):CR w gc v p' h' t a e (x.setCell ⟨w.heap.size+1+1,i,none⟩ u):=
 ⟨⟨Ae c.bx.mods (by omega) i u,c.bx.box.other (by simp;omega) u,⟨c.bx.cur.1.other (by have:=c.lt;simp;omega) u,c.bx.cur.2⟩,c.bx.ne⟩,c.res.other (by simp) u,c.pk.upd i u he,hi,hf,c.lt⟩
theorem CR.set(c:CR w gc v p h t a e x)(i:Nat)(u:Value)(he:(pkC p h).setIfInBounds i u=pkC p' h)(hl:p'.will.props=p.will.props/\p'.codes=p.codes/\p'.filters=p.filters/\p'.props=p.props):
  CR w gc v p' h t a e (x.setCell ⟨w.heap.size+1+1,i,none⟩ u):=by
 refine c.put i u he ⟨hl.2.1.trans c.flat.1,hl.2.2.1.trans c.flat.2⟩ ?_;have:=c.into.blk c.flat.1 c.flat.2 c.pk (dY _ _) (cP x (w.heap.size+1+1) i u);obtain⟨h1,h2,h3,h4⟩:=hl;exact⟨by rw[h1];exact this.wp,by rw[h2];exact this.codes,by rw[h3];exact this.filters,by rw[h4];exact this.props,by rw[h1,h2,h3,h4];exact this.caps⟩
theorem CR.setP(c:CR w gc v p h t a e x){A:Option Addr}{n:Nat}{l:List Pr}(hr:Rd x x.heap.size 4 A l.length (prs l))(hn:l.length<=n):
  CR w gc v {p with props:=l} {h with props:=⟨A,n⟩} t a e (x.setCell ⟨w.heap.size+1+1,24,none⟩ (.slice A l.length n)):=by
 refine c.put 24 _ rfl c.flat ?_;have hm:=cP x (w.heap.size+1+1) 24 (.slice A l.length n);have:=c.into.blk c.flat.1 c.flat.2 c.pk (dY _ _) hm;exact⟨this.wp,this.codes,this.filters,(hr.other c.pk (dY _ _) hm (ac _)).wider hm.size,this.caps.1,this.caps.2.1,this.caps.2.2.1,hn⟩
theorem CR.setW(c:CR w gc v p h t a e x){A:Option Addr}{n:Nat}{l:List Pr}(hr:Rd x x.heap.size 4 A l.length (prs l))(hn:l.length<=n):
  CR w gc v {p with will:={p.will with props:=l}} {h with wp:=⟨A,n⟩} t a e (x.setCell ⟨w.heap.size+1+1,19,none⟩ (.slice A l.length n)):=by
 refine c.put 19 _ rfl c.flat ?_;have hm:=cP x (w.heap.size+1+1) 19 (.slice A l.length n);have:=c.into.blk c.flat.1 c.flat.2 c.pk (dY _ _) hm;exact⟨(hr.other c.pk (dY _ _) hm (ac _)).wider hm.size,this.codes,this.filters,this.props,hn,this.caps.2⟩
end
theorem fz{fn:Func}{p:Tmp}(hr:fn.results= #[.cell p PkT])(tmps:Array Value){w:World}{g:Nat}{q:Pk}{h:Hs}(hp:tmps.getD p undef= .pointer (some ⟨g,0,none⟩))(hb:Bk w g PkT (pkC q h)):
  (results fn tmps).run prog w= .ok (pkV q h) w:=by
 have hl:=Cn hb;have e:(results fn tmps).run prog w=((asAddr (tmps.getD p undef)).run prog w).andThen fun a w₁=>(loadVar PkT a).run prog w₁:=by
  simp only[results,hr];simp[Sem.run_bind,Result.andThen]
 rw[e,hp];generalize pkV q h=V at hl⊢;exact kG _ (⟨g,0,none⟩:Addr) w _ rfl |>.trans hl
def xM(g:Nat)(t:ByteArray)(r:Pk×Nat×Int)(w:World)(e:Ending)(w':World):Prop:=
 ∃k,e= .returned (pkV r.1 k)/\PkIn w' w'.heap.size r.1 k/\(r.1.codes=[]/\r.1.filters=[])/\Cur w' g t r.2.1 r.2.2/\w.grownBy w' (some g)
theorem CR.fin{w x:World}{gc:Nat}{v:Int}{p:Pk}{h:Hs}{t:ByteArray}{a:Nat}{e:Int}(c:CR w gc v p h t a e x):xM gc t (p,a,e) w (.returned (pkV p h)) (dE x (w.heap.size+1) p h):=by
 have hm:=cJ x (w.heap.size+1) p h;exact⟨h,rfl,c.into.blk c.flat.1 c.flat.2 c.res (dY _ _) hm,c.flat,⟨c.bx.cur.1.mods (S:=fun z=>z=w.heap.size+1) (Mods.of_grown hm rfl) (by have:=c.lt;omega),c.bx.cur.2⟩,
  ⟨hm.os.trans c.bx.mods.os,hm.tape.trans c.bx.mods.tape,hm.output.trans c.bx.mods.output,aC c.bx.mods.size hm.size,fun i hi hn=>(hm.block i (by have:=c.bx.mods.size;omega) (fun e=>by cases e;omega)).trans (c.bx.mods.block i hi hn)⟩⟩
theorem xu(gc:Nat)(t:ByteArray)(v:Int)(w:World)(h:Cur w gc t 0 0)(ht:t.size<=140737488351232)(hv:v=4\/v=5):
  Calls prog 266 #[.agg #[.pointer (some ⟨gc,0,none⟩),.int .i64 v]] w (xM gc t (jS v t) w):=by
 have HX:=aa (BX.start h v);have HT:=aa ht;have HV:=aa hv;have HLT:=aa h.lt;have hne:w.heap.size≠gc:=by have:=h.lt;omega
 have HN0:Hid (stN t=((aH t 0 0 6).2.1,if(aH t 0 0 6).1=i8 then(aH t 0 0 6).2.2 else fh (aH t 0 0 6).2.2 5)):=aa rfl;have HcV:Hid (cnV v t=stV v t (stN t).1 (stN t).2):=aa rfl;have HcF:Hid (cnF v t=stG v t (cnV v t).1 (cnV v t).2):=aa rfl;have HcK:Hid (cnK v t=stK t (cnF v t).2.1 (cnF v t).2.2):=aa rfl;have HcP:Hid (cnP v t=fv v 1 t (cnK v t).2.1 (cnK v t).2.2):=aa rfl;have HcT:Hid (cnT v t=fX t (cnP v t).2.1 (cnP v t).2.2):=aa rfl;have Hc1:Hid (cn1 v t=(xz (cnF v t).1 (cnK v t).1 (cnT v t).1 (cnP v t).1,(cnT v t).2.1,(cnT v t).2.2)):=aa rfl;have HcR:Hid (jS v t=cn4 t (cn3 t (cn2 v t (cn1 v t)))):=aa rfl;generalize jS v t=RR at*;have hst0:∀q k,(zc (.pointer (some ⟨w.heap.size+1+1,0,none⟩)) (pkV q k)).run prog (((w.alloc (.cells #[.pointer (some ⟨gc,0,none⟩),.int .i64 v] lP)).alloc (.cells (pkC pk0 hs0) PkT)).alloc (.cells (pkC pk0 hs0) PkT))=
   .ok () (((w.alloc (.cells #[.pointer (some ⟨gc,0,none⟩),.int .i64 v] lP)).alloc (.cells (pkC pk0 hs0) PkT)).alloc (.cells (pkC q k) PkT)):=fun q k=>by
  have h2:((w.alloc (.cells #[.pointer (some ⟨gc,0,none⟩),.int .i64 v] lP)).alloc (.cells (pkC pk0 hs0) PkT)).heap.size=w.heap.size+1+1:=by simp
  have:=ax ((w.alloc (.cells #[.pointer (some ⟨gc,0,none⟩),.int .i64 v] lP)).alloc (.cells (pkC pk0 hs0) PkT)) pk0 q hs0 k;rw[h2]at this;exact this
 clear h ht hv;go_enter func266,ntmps266;have C0:Hid (CR w gc v {pk0 with kind:=1} hs0 t 0 0 (((w.alloc (.cells #[.pointer (some ⟨gc,0,none⟩),.int .i64 v] lP)).alloc (.cells (pkC pk0 hs0) PkT)).alloc (.cells (pkC {pk0 with kind:=1} hs0) PkT))):=aa
  ⟨(HX.o.below ((aq _ _).alloc (ac _) _)).below ((aq _ _).alloc (ac _) _),(by simpa using Bk.fresh (w.alloc (.cells #[.pointer (some ⟨gc,0,none⟩),.int .i64 v] lP)) PkT (pkC pk0 hs0):Bk _ (w.heap.size+1) PkT (pkC pk0 hs0)).alloc _,
    by simpa using Bk.fresh ((w.alloc (.cells #[.pointer (some ⟨gc,0,none⟩),.int .i64 v] lP)).alloc (.cells (pkC pk0 hs0) PkT)) PkT (pkC {pk0 with kind:=1} hs0),PkIn.zero _ _ 1 0 0,⟨rfl,rfl⟩,HLT.o⟩
 go_wp2_with fail
 clear hst0 HX;generalize (((w.alloc (.cells #[.pointer (some ⟨gc,0,none⟩),.int .i64 v] lP)).alloc (.cells (pkC pk0 hs0) PkT)).alloc (.cells (pkC {pk0 with kind:=1} hs0) PkT))=x0 at*;obtain⟨q0,hq0⟩:∃q,{pk0 with kind:=1}=q:=⟨_,rfl⟩;have HQ0:=aa hq0.symm;rw[hq0]at C0;clear hq0;have K0:=aa (fun(x:World) (hc:Cur x gc t 0 0)=>eo gc 0 t 0 6 x hc);generalize aH t 0 0 6=T0 at*;obtain⟨b6,a6,e6⟩:=T0;simp only at HN0 K0;obtain⟨bn,hbn⟩:∃bn,(b6.toList==[0,4,77,81,84,84])=bn:=⟨_,rfl⟩;have HN:Hid (stN t=(a6,if bn=true then e6 else fh e6 5)):=aa (by
  rw[HN0.o];have hname:i8.toList=[0,4,77,81,84,84]:=by decide+kernel
  by_cases hb:b6=i8
  ·have:bn=true:=by rw[<-hbn,hb,hname];rfl
   rw[if_pos hb,this,if_pos rfl]
  ·have:bn=false:=by
    rw[<-hbn];refine ar.2 fun x=>hb ?_;rw[<-hname]at x;exact(toList_inj _ _).1 x
   rw[ae hb,this,ae (by decide)])
 clear HN0;have hsb:=C0.o.bx.sb
 go_wp2_with fail
 go_region_held3 (fun x=>x.cell? ⟨w.heap.size,0,none⟩=some (.pointer (some ⟨gc,0,none⟩))/\x.cell? ⟨w.heap.size,1,none⟩=some (.int .i64 v)/\x0.grownBy x (some gc))
  (first| exact SB.below hsb (aV (aq _ _) _) | exact SB.turn (by assumption) hm1 hne| exact SB.turn (by assumption) hmu hne| go_keep)
  (first| (go_at_call 66;refine(K0.o _ (C0.o.drewN 1).bx.cur).mono ?_;rintro e x1 ⟨rfl,hc1,hm1⟩)
        | (go_at_call 268;refine(gM gc _ t _ v _ 5 _ hc1).mono ?_;rintro e x2 ⟨rfl,hcu,hmu⟩))
 have HM:=aa (show SB w.heap.size gc v x0 x2 by assumption).2.2;clear hsb hmu hm1 hc1;have C1:=aa (C0.o.turn hcu HM.o);clear hcu HM hbn K0 C0;generalize (if bn=true then e6 else fh e6 5)=e0 at*;have hwv:IntKind.u64.wrap v=v:=by rw[iZ];have:=HV.o;omega
 have K1:=aa (fun(x:World) (hc:Cur x gc t a6 e0)=>dR gc a6 t e0 1 x hc (by decide));obtain⟨bv,hbv⟩:∃bv,(((br t a6 e0 1:Nat):Int)==v)=bv:=⟨_,rfl⟩;have HW:Hid (cnV v t=((aH t a6 e0 1).2.1,if bv=true then(aH t a6 e0 1).2.2 else fh (aH t a6 e0 1).2.2 5)):=aa (by
  rw[HcV.o,HN.o];unfold stV
  by_cases hb:((br t a6 e0 1:Nat):Int)=v
  ·have:bv=true:=by rw[<-hbv];exact aK.2 hb
   simp only;rw[if_pos hb,this,if_pos rfl]
  ·have:bv=false:=by rw[<-hbv];exact ar.2 hb
   simp only;rw[ae hb,this,ae (by decide)])
 generalize br t a6 e0 1=n1 at*;generalize (aH t a6 e0 1).2.1=a1 at*;generalize (aH t a6 e0 1).2.2=f1 at*;clear HcV HN;have hsb:=C1.o.bx.sb
 go_wp2_with fail
 go_region_held3 (fun x=>x.cell? ⟨w.heap.size,0,none⟩=some (.pointer (some ⟨gc,0,none⟩))/\x.cell? ⟨w.heap.size,1,none⟩=some (.int .i64 v)/\x2.grownBy x (some gc))
  (first| exact SB.below hsb (aV (aq _ _) _) | exact SB.turn (by assumption) hm1 hne| exact SB.turn (by assumption) hmu hne| go_keep)
  (first| (go_at_call 61;refine(K1.o _ (C1.o.drewN 1).bx.cur).mono ?_;rintro e x3 ⟨rfl,hc1,hm1⟩)
        | (go_at_call 268;refine(gM gc _ t _ v _ 5 _ hc1).mono ?_;rintro e x4 ⟨rfl,hcu,hmu⟩))
 have HM:=aa (show SB w.heap.size gc v x2 x4 by assumption).2.2;clear hsb hmu hm1 hc1;have C2:=aa (C1.o.turn hcu HM.o);clear hcu HM hbv K1 C1 hwv;generalize (if bv=true then f1 else fh f1 5)=e1 at*;have k0:x4.cell? ⟨w.heap.size,0,none⟩=some (.pointer (some ⟨gc,0,none⟩)):=C2.o.bx.box.cell 0
 go_wp2_with fail
 refine(dR gc a1 t e1 1 _ C2.o.bx.cur (by decide)).mono ?_;rintro e x5 ⟨rfl,hc,hm⟩;have C3:=aa (C2.o.turn hc hm);clear hc hm k0
 have HFL:=aa (iV t a1 e1);have HF0:Hid (cnF v t=(br t a1 e1 1,(aH t a1 e1 1).2.1,if tu v (br t a1 e1 1)=true then(aH t a1 e1 1).2.2 else fh (aH t a1 e1 1).2.2 7)):=aa (by rw[HcF.o,HW.o];rfl);generalize br t a1 e1 1=fn at*;generalize (aH t a1 e1 1).2.1=a2 at*;generalize (aH t a1 e1 1).2.2=f2 at*;have hwf:IntKind.i64.wrap (fn:Int)=(fn:Int):=by rw[aQ];have:=HFL.o;omega
 clear C2 HcF HW;have KF:=aa (fun x:World=>CI gc v fn HFL.o x);obtain⟨bf,hbf⟩:∃bf,tu v fn=bf:=⟨_,rfl⟩;rw[hbf]at HF0 KF;clear hbf;have hsb:=C3.o.bx.sb
 go_wp2_with fail
 go_region_held3 (fun x=>x.cell? ⟨w.heap.size,0,none⟩=some (.pointer (some ⟨gc,0,none⟩))/\x.cell? ⟨w.heap.size,1,none⟩=some (.int .i64 v)/\x5.grownBy x (some gc))
  (first| exact SB.below hsb (aV (aq _ _) _) | exact SB.below (by assumption) hm1| exact SB.turn (by assumption) hmu hne| go_keep)
  (first| (go_at_call 329;refine(KF.o _).mono ?_;rintro e x6 ⟨rfl,hm1⟩)
        | (go_at_call 268;refine(gM gc a2 t f2 v _ 7 _ ((C3.o.drewN 1).below hm1).bx.cur).mono ?_;rintro e x7 ⟨rfl,hcu,hmu⟩))
 have HM:=aa (show SB w.heap.size gc v x5 x7 by assumption).2.2;clear hsb hmu hm1;have C4:=aa (C3.o.turn hcu HM.o);clear hcu HM KF C3 hwf;generalize (if bf=true then f2 else fh f2 7)=e2 at*;have f7:=C4.o.pk.free 7;have p7:=(C4.o.pk.cell 7).trans (dr _ _)
 have f14:=C4.o.pk.free 14;have p14:=(C4.o.pk.cell 14).trans (bX _ _)
 have f12:=C4.o.pk.free 12;have p12:=(C4.o.pk.cell 12).trans (bO _ _)
 have f10:=C4.o.pk.free 10;have p10:=(C4.o.pk.cell 10).trans (bW _ _)
 have f18:=C4.o.pk.free 18;have p18:=(C4.o.pk.cell 18).trans (cu _ _)
 have f17:=C4.o.pk.free 17;have p17:=(C4.o.pk.cell 17).trans (cw _ _)
 have k0:x7.cell? ⟨w.heap.size,0,none⟩=some (.pointer (some ⟨gc,0,none⟩)):=C4.o.bx.box.cell 0;obtain⟨-,g2,g4,-,-,g8,-,g32,g64,-,g128⟩:=vy ⟨fn,HFL.o⟩;simp only at g2 g4 g8 g32 g64 g128;obtain⟨b2,hb2⟩:∃b,decide (fn/ 2% 2=1)=b:=⟨_,rfl⟩;obtain⟨b4,hb4⟩:∃b,decide (fn/ 4% 2=1)=b:=⟨_,rfl⟩;obtain⟨b32,hb32⟩:∃b,decide (fn/ 32% 2=1)=b:=⟨_,rfl⟩;obtain⟨b64,hb64⟩:∃b,decide (fn/ 64% 2=1)=b:=⟨_,rfl⟩;obtain⟨b128,hb128⟩:∃b,decide (fn/ 128% 2=1)=b:=⟨_,rfl⟩;obtain⟨qq,hqq⟩:∃q:Int,((fn/ 8% 4:Nat):Int)=q:=⟨_,rfl⟩;rw[hb2]at g2;rw[hb4]at g4;rw[hb32]at g32;rw[hb64]at g64;rw[hb128]at g128;rw[hqq]at g8;have HPK:Hid (∀(k:Nat) c l,({q0 with clean:=b2,hasWill:=b4,hasPass:=b64,hasUser:=b128,will:={q0.will with retain:=b32,qos:=qq},alive:=((k:Nat):Int),props:=l,client:=c}:Pk)=xz fn k c l):=aa (by
  intro k c l;rw[<-hb2,<-hb4,<-hb32,<-hb64,<-hb128,<-hqq,HQ0.o];rfl)
 clear hb2 hb4 hb32 hb64 hb128 hqq;have hf0:(0:Int)<=(fn:Int):=by omega
 have HKL:=aa (gU t a2 e2 C4.o.bx.cur.at_most.1);have C5:=aa ((((((C4.o.set 7 (.bool b2) (p':={q0 with clean:=b2}) rfl ⟨rfl,rfl,rfl,rfl⟩).set 14 (.bool b4) (p':={q0 with clean:=b2,hasWill:=b4}) rfl ⟨rfl,rfl,rfl,rfl⟩).set 12 (.bool b64) (p':={q0 with clean:=b2,hasWill:=b4,hasPass:=b64}) rfl ⟨rfl,rfl,rfl,rfl⟩).set 10 (.bool b128) (p':={q0 with clean:=b2,hasWill:=b4,hasPass:=b64,hasUser:=b128}) rfl ⟨rfl,rfl,rfl,rfl⟩).set 18 (.bool b32) (p':={q0 with clean:=b2,hasWill:=b4,hasPass:=b64,hasUser:=b128,will:={q0.will with retain:=b32}}) rfl ⟨rfl,rfl,rfl,rfl⟩).set 17 (.int .i64 qq) (p':={q0 with clean:=b2,hasWill:=b4,hasPass:=b64,hasUser:=b128,will:={q0.will with retain:=b32,qos:=qq}}) rfl ⟨rfl,rfl,rfl,rfl⟩);clear C4
 go_wp2_with fail
 refine(dR gc a2 t e2 2 _ C5.o.bx.cur (by decide)).mono ?_;rintro e x8 ⟨rfl,hc,hm⟩;have C6:=aa (C5.o.turn hc hm);clear hc hm C5 f7 p7 f14 p14 f12 p12 f10 p10 f18 p18 f17 p17 g2 g4 g8 g32 g64 g128 hf0 k0;have HKK:Hid (cnK v t=(br t a2 e2 2,(aH t a2 e2 2).2.1,(aH t a2 e2 2).2.2)):=aa (by rw[HcK.o,HF0.o];rfl);generalize br t a2 e2 2=kn at*;generalize (aH t a2 e2 2).2.1=a3 at*;generalize (aH t a2 e2 2).2.2=e3 at*;have hwk:IntKind.i64.wrap (kn:Int)=(kn:Int):=by rw[aQ];have:=HKL.o;omega
 have f8:=C6.o.pk.free 8;have p8:=(C6.o.pk.cell 8).trans (dp _ _)
 have p0:x8.cell? ⟨w.heap.size+1+1,0,none⟩=some (.int .i64 1):=((C6.o.pk.cell 0).trans (cI _ _)).trans (by rw[HQ0.o]);have k0:x8.cell? ⟨w.heap.size,0,none⟩=some (.pointer (some ⟨gc,0,none⟩)):=C6.o.bx.box.cell 0;have k1:x8.cell? ⟨w.heap.size,1,none⟩=some (.int .i64 v):=C6.o.bx.box.cell 1;have C7:=aa (C6.o.set 8 (.int .i64 (kn:Int)) (p':={q0 with clean:=b2,hasWill:=b4,hasPass:=b64,hasUser:=b128,will:={q0.will with retain:=b32,qos:=qq},alive:=(kn:Int)}) rfl ⟨rfl,rfl,rfl,rfl⟩);have HPP:Hid (cnP v t=fv v 1 t a3 e3):=aa (by rw[HcP.o,HKK.o]);clear C6 HcK HcP
 go_wp2_with fail
 refine(qh gc a3 t e3 v 1 _ C7.o.bx.cur HT.o).mono ?_;rintro e x9 ⟨A,c,rfl,hlc,hr,hc,hm⟩;rw[<-HPP.o]at hlc hr hc⊢;clear HPP f8 p8 p0 k0 k1 hwk;generalize cnP v t=r at*;obtain⟨l,a4,e4⟩:=r;simp only at hlc hr hc HcT Hc1⊢;have C8:=aa (C7.o.turn hc hm);have C9:=aa (C8.o.setP hr hlc);have f24:=C8.o.pk.free 24;have p24:=(C8.o.pk.cell 24).trans (bR _ _)
 have k0:x9.cell? ⟨w.heap.size,0,none⟩=some (.pointer (some ⟨gc,0,none⟩)):=C8.o.bx.box.cell 0;have k1:x9.cell? ⟨w.heap.size,1,none⟩=some (.int .i64 v):=C8.o.bx.box.cell 1;clear hlc hr hc hm C7
 go_wp2_with fail
 refine(ph gc a4 t e4 v _ C9.o.bx.cur).mono ?_;rintro e y0 ⟨rfl,hc,hm⟩;rw[<-HcT.o]at hc⊢;clear HcT f24 p24 k0 k1 C8;generalize cnT v t=r at*;obtain⟨cl,a5,e5⟩:=r;simp only at hc Hc1⊢;rw[HF0.o,HKK.o]at Hc1;simp only at Hc1;have C10:=aa (C9.o.turn hc hm);clear hc hm C9 HF0 HKK;have C11':=aa (C10.o.set 9 (.string cl) (p':={q0 with clean:=b2,hasWill:=b4,hasPass:=b64,hasUser:=b128,will:={q0.will with retain:=b32,qos:=qq},alive:=(kn:Int),props:=l,client:=cl}) rfl ⟨rfl,rfl,rfl,rfl⟩);have f9:=C10.o.pk.free 9;have p9:=(C10.o.pk.cell 9).trans (dn _ _)
 have p14:y0.cell? ⟨w.heap.size+1+1,14,none⟩=some (.bool b4):=(C10.o.pk.cell 14).trans (bX _ _);have HB4:Hid ((xz fn kn cl l).hasWill=b4):=aa (by rw[<-HPK.o]);rw[HPK.o]at C11';generalize xz fn kn cl l=P1 at*;clear C10 HPK HQ0 HKL HFL;obtain⟨H1,hH1⟩:∃H:Hs,{hs0 with props:=⟨A,c⟩}=H:=⟨_,rfl⟩;rw[hH1]at C11';clear hH1;obtain⟨Y1,hY1⟩:∃Y,y0.setCell ⟨w.heap.size+1+1,9,none⟩ (.string cl)=Y:=⟨_,rfl⟩;have C11:=C11';rw[hY1]at C11;have k0:Y1.cell? ⟨w.heap.size,0,none⟩=some (.pointer (some ⟨gc,0,none⟩)):=C11.o.bx.box.cell 0;have k1:Y1.cell? ⟨w.heap.size,1,none⟩=some (.int .i64 v):=C11.o.bx.box.cell 1;have HR2:Hid (RR=cn4 t (cn3 t (cn2 v t (P1,a5,e5)))):=aa (by rw[HcR.o,Hc1.o]);clear C11' HcR Hc1;cases b4
 ·have p14:=((C11.o.pk.cell 14).trans (bX _ _)).trans (show _=some (Value.bool false) by rw[HB4.o]);have HR3:Hid (RR=cn4 t (cn3 t (P1,a5,e5))):=aa (by rw[HR2.o];unfold cn2;rw[ae (by rw[HB4.o];decide)]);clear k0 k1;cases hb1:(P1:Pk).hasUser
  ·have hb1p:=((C11.o.pk.cell 10).trans (bW _ _)).trans (show _=some (Value.bool false) by rw[hb1]);have HQ2:Hid (RR=cn4 t (P1,a5,e5)):=aa (by rw[HR3.o];unfold cn3;rw[ae (by rw[hb1];decide)]);cases hb4:(P1:Pk).hasPass
   ·have hb4p:=((C11.o.pk.cell 12).trans (bO _ _)).trans (show _=some (Value.bool false) by rw[hb4]);have HZ:Hid (RR=(P1,a5,e5)):=aa (by rw[HQ2.o];unfold cn4;rw[ae (by rw[hb4];decide)]);have hl:=cf C11.o.pk;have hst:=aW C11.o.res;go_wp2;refine av (fz rfl _ rfl (cO C11.o.res _ _)) rfl ?_;rw[HZ.o];exact C11.o.fin
   ·have hb4p:=((C11.o.pk.cell 12).trans (bO _ _)).trans (show _=some (Value.bool true) by rw[hb4]);have k0:Y1.cell? ⟨w.heap.size,0,none⟩=some (.pointer (some ⟨gc,0,none⟩)):=C11.o.bx.box.cell 0;have k1:Y1.cell? ⟨w.heap.size,1,none⟩=some (.int .i64 v):=C11.o.bx.box.cell 1
    go_wp2_with fail
    refine(jB gc a5 t e5 v _ C11.o.bx.cur).mono ?_;rintro e y5 ⟨rfl,hc,hm⟩;obtain⟨S6,a7,e8,HS13⟩:∃(S:ByteArray) (a:Nat) (e:Int),eB t a5 e5=(S,a,e):=⟨_,_,_,rfl⟩;rw[HS13]at hc⊢;simp only at hc⊢
    replace HS13:=aa HS13
    have C9:=aa (C11.o.turn hc hm);have C10:=aa (C9.o.set 13 (.string S6) (p':={(P1:Pk)with pass:=S6}) rfl ⟨rfl,rfl,rfl,rfl⟩);have fx:=C9.o.pk.free 13;have px:=(C9.o.pk.cell 13).trans (bZ _ _)
    clear hc hm k0 k1;obtain⟨Y11,hY12⟩:∃Y,y5.setCell ⟨w.heap.size+1+1,13,none⟩ (.string S6)=Y:=⟨_,rfl⟩;rw[hY12]at C10;obtain⟨PV14,hPV15⟩:∃P:Pk,{(P1:Pk)with pass:=S6}=P:=⟨_,rfl⟩;rw[hPV15]at C10
    replace hPV15:=aa hPV15
    have HZ:Hid (RR=(PV14,a7,e8)):=aa (by rw[HQ2.o];unfold cn4;rw[if_pos hb4];simp only;rw[HS13.o,<-hPV15.out]);have hl:=cf C10.o.pk;have hst:=aW C10.o.res;go_wp2;refine av (fz rfl _ rfl (cO C10.o.res _ _)) rfl ?_;rw[HZ.o];exact C10.o.fin
  ·have hb1p:=((C11.o.pk.cell 10).trans (bW _ _)).trans (show _=some (Value.bool true) by rw[hb1]);have k0:Y1.cell? ⟨w.heap.size,0,none⟩=some (.pointer (some ⟨gc,0,none⟩)):=C11.o.bx.box.cell 0;have k1:Y1.cell? ⟨w.heap.size,1,none⟩=some (.int .i64 v):=C11.o.bx.box.cell 1
   go_wp2_with fail
   refine(ph gc a5 t e5 v _ C11.o.bx.cur).mono ?_;rintro e y16 ⟨rfl,hc,hm⟩;obtain⟨S17,a18,e19,HS24⟩:∃(S:ByteArray) (a:Nat) (e:Int),fX t a5 e5=(S,a,e):=⟨_,_,_,rfl⟩;rw[HS24]at hc⊢;simp only at hc⊢
   replace HS24:=aa HS24
   have C20:=aa (C11.o.turn hc hm);have C21:=aa (C20.o.set 11 (.string S17) (p':={(P1:Pk)with user:=S17}) rfl ⟨rfl,rfl,rfl,rfl⟩);have fx:=C20.o.pk.free 11;have px:=(C20.o.pk.cell 11).trans (co _ _)
   clear hc hm k0 k1;obtain⟨Y22,hY23⟩:∃Y,y16.setCell ⟨w.heap.size+1+1,11,none⟩ (.string S17)=Y:=⟨_,rfl⟩;rw[hY23]at C21;obtain⟨PV25,hPV26⟩:∃P:Pk,{(P1:Pk)with user:=S17}=P:=⟨_,rfl⟩;rw[hPV26]at C21
   replace hPV26:=aa hPV26
   have HQ3:Hid (RR=cn4 t (PV25,a18,e19)):=aa (by rw[HR3.o];unfold cn3;rw[if_pos hb1];simp only;rw[HS24.o,<-hPV26.out]);cases hb27:(PV25:Pk).hasPass
   ·have hb27p:=((C21.o.pk.cell 12).trans (bO _ _)).trans (show _=some (Value.bool false) by rw[hb27]);have HZ:Hid (RR=(PV25,a18,e19)):=aa (by rw[HQ3.o];unfold cn4;rw[ae (by rw[hb27];decide)]);have hl:=cf C21.o.pk;have hst:=aW C21.o.res;go_wp2;refine av (fz rfl _ rfl (cO C21.o.res _ _)) rfl ?_;rw[HZ.o];exact C21.o.fin
   ·have hb27p:=((C21.o.pk.cell 12).trans (bO _ _)).trans (show _=some (Value.bool true) by rw[hb27]);have k0:Y22.cell? ⟨w.heap.size,0,none⟩=some (.pointer (some ⟨gc,0,none⟩)):=C21.o.bx.box.cell 0;have k1:Y22.cell? ⟨w.heap.size,1,none⟩=some (.int .i64 v):=C21.o.bx.box.cell 1
    go_wp2_with fail
    refine(jB gc a18 t e19 v _ C21.o.bx.cur).mono ?_;rintro e y28 ⟨rfl,hc,hm⟩;obtain⟨S29,a30,e31,HS36⟩:∃(S:ByteArray) (a:Nat) (e:Int),eB t a18 e19=(S,a,e):=⟨_,_,_,rfl⟩;rw[HS36]at hc⊢;simp only at hc⊢
    replace HS36:=aa HS36
    have C32:=aa (C21.o.turn hc hm);have C33:=aa (C32.o.set 13 (.string S29) (p':={(PV25:Pk)with pass:=S29}) rfl ⟨rfl,rfl,rfl,rfl⟩);have fx:=C32.o.pk.free 13;have px:=(C32.o.pk.cell 13).trans (bZ _ _)
    clear hc hm k0 k1;obtain⟨Y34,hY35⟩:∃Y,y28.setCell ⟨w.heap.size+1+1,13,none⟩ (.string S29)=Y:=⟨_,rfl⟩;rw[hY35]at C33;obtain⟨PV37,hPV38⟩:∃P:Pk,{(PV25:Pk)with pass:=S29}=P:=⟨_,rfl⟩;rw[hPV38]at C33
    replace hPV38:=aa hPV38
    have HZ:Hid (RR=(PV37,a30,e31)):=aa (by rw[HQ3.o];unfold cn4;rw[if_pos hb27];simp only;rw[HS36.o,<-hPV38.out]);have hl:=cf C33.o.pk;have hst:=aW C33.o.res;go_wp2;refine av (fz rfl _ rfl (cO C33.o.res _ _)) rfl ?_;rw[HZ.o];exact C33.o.fin
 ·have p14:=((C11.o.pk.cell 14).trans (bX _ _)).trans (show _=some (Value.bool true) by rw[HB4.o])
  go_wp2_with fail
  refine(qh gc a5 t e5 v 16 _ C11.o.bx.cur HT.o).mono ?_;rintro e yw ⟨A',c',rfl,hlc,hr,hc,hm⟩;obtain⟨wl,aw,ew,hWP⟩:∃(l:List Pr) (a:Nat) (e:Int),fv v 16 t a5 e5=(l,a,e):=⟨_,_,_,rfl⟩;rw[hWP]at hlc hr hc⊢;simp only at hlc hr hc⊢
  replace hWP:=aa hWP
  have CW8:=aa (C11.o.turn hc hm);have CW9:=aa (CW8.o.setW hr hlc);have fx:=CW8.o.pk.free 19;have px:=(CW8.o.pk.cell 19).trans (ct _ _)
  clear hlc hr hc hm k0 k1 p14 f9 p9 hY1;obtain⟨Yw,hYw⟩:∃Y,yw.setCell ⟨w.heap.size+1+1,19,none⟩ (.slice A' wl.length c')=Y:=⟨_,rfl⟩;rw[hYw]at CW9;obtain⟨HW,hHW⟩:∃H:Hs,{H1 with wp:=⟨A',c'⟩}=H:=⟨_,rfl⟩;rw[hHW]at CW9;obtain⟨PW,hPW⟩:∃P:Pk,{P1 with will:={P1.will with props:=wl}}=P:=⟨_,rfl⟩;rw[hPW]at CW9
  replace hPW:=aa hPW
  clear hHW;have k0:Yw.cell? ⟨w.heap.size,0,none⟩=some (.pointer (some ⟨gc,0,none⟩)):=CW9.o.bx.box.cell 0;have k1:Yw.cell? ⟨w.heap.size,1,none⟩=some (.int .i64 v):=CW9.o.bx.box.cell 1
  go_wp2_with fail
  clear fx px hYw;refine(ph gc aw t ew v _ CW9.o.bx.cur).mono ?_;rintro e y39 ⟨rfl,hc,hm⟩;obtain⟨S40,a41,e42,HS47⟩:∃(S:ByteArray) (a:Nat) (e:Int),fX t aw ew=(S,a,e):=⟨_,_,_,rfl⟩;rw[HS47]at hc⊢;simp only at hc⊢
  replace HS47:=aa HS47
  have C43:=aa (CW9.o.turn hc hm);have C44:=aa (C43.o.set 15 (.string S40) (p':={(PW:Pk)with will:={(PW:Pk).will with topic:=S40}}) rfl ⟨rfl,rfl,rfl,rfl⟩);have fx:=C43.o.pk.free 15;have px:=(C43.o.pk.cell 15).trans (cz _ _)
  clear hc hm k0 k1;obtain⟨Y45,hY46⟩:∃Y,y39.setCell ⟨w.heap.size+1+1,15,none⟩ (.string S40)=Y:=⟨_,rfl⟩;rw[hY46]at C44;obtain⟨PV48,hPV49⟩:∃P:Pk,{(PW:Pk)with will:={(PW:Pk).will with topic:=S40}}=P:=⟨_,rfl⟩;rw[hPV49]at C44
  replace hPV49:=aa hPV49
  have k0:Y45.cell? ⟨w.heap.size,0,none⟩=some (.pointer (some ⟨gc,0,none⟩)):=C44.o.bx.box.cell 0;have k1:Y45.cell? ⟨w.heap.size,1,none⟩=some (.int .i64 v):=C44.o.bx.box.cell 1
  go_wp2_with fail
  clear fx px hY46;refine(jB gc a41 t e42 v _ C44.o.bx.cur).mono ?_;rintro e y50 ⟨rfl,hc,hm⟩;obtain⟨S51,a52,e53,HS58⟩:∃(S:ByteArray) (a:Nat) (e:Int),eB t a41 e42=(S,a,e):=⟨_,_,_,rfl⟩;rw[HS58]at hc⊢;simp only at hc⊢
  replace HS58:=aa HS58
  have C54:=aa (C44.o.turn hc hm);have C55:=aa (C54.o.set 16 (.string S51) (p':={(PV48:Pk)with will:={(PV48:Pk).will with payload:=S51}}) rfl ⟨rfl,rfl,rfl,rfl⟩);have fx:=C54.o.pk.free 16;have px:=(C54.o.pk.cell 16).trans (cy _ _)
  clear hc hm k0 k1;obtain⟨Y56,hY57⟩:∃Y,y50.setCell ⟨w.heap.size+1+1,16,none⟩ (.string S51)=Y:=⟨_,rfl⟩;rw[hY57]at C55;obtain⟨PV59,hPV60⟩:∃P:Pk,{(PV48:Pk)with will:={(PV48:Pk).will with payload:=S51}}=P:=⟨_,rfl⟩;rw[hPV60]at C55
  replace hPV60:=aa hPV60
  have HR3:Hid (RR=cn4 t (cn3 t (PV59,a52,e53))):=aa (by
   rw[HR2.o];unfold cn2;rw[if_pos HB4.o]
   unfold Aw rz rA;simp only;rw[hWP.out];simp only;rw[HS47.o];simp only;rw[HS58.o,<-hPV60.out,<-hPV49.out,<-hPW.out])
  cases hb61:(PV59:Pk).hasUser
  ·have hb61p:=((C55.o.pk.cell 10).trans (bW _ _)).trans (show _=some (Value.bool false) by rw[hb61]);have HQ62:Hid (RR=cn4 t (PV59,a52,e53)):=aa (by rw[HR3.o];unfold cn3;rw[ae (by rw[hb61];decide)]);cases hb64:(PV59:Pk).hasPass
   ·have hb64p:=((C55.o.pk.cell 12).trans (bO _ _)).trans (show _=some (Value.bool false) by rw[hb64]);have HZ:Hid (RR=(PV59,a52,e53)):=aa (by rw[HQ62.o];unfold cn4;rw[ae (by rw[hb64];decide)]);have hl:=cf C55.o.pk;have hst:=aW C55.o.res;go_wp2;refine av (fz rfl _ rfl (cO C55.o.res _ _)) rfl ?_;rw[HZ.o];exact C55.o.fin
   ·have hb64p:=((C55.o.pk.cell 12).trans (bO _ _)).trans (show _=some (Value.bool true) by rw[hb64]);have k0:Y56.cell? ⟨w.heap.size,0,none⟩=some (.pointer (some ⟨gc,0,none⟩)):=C55.o.bx.box.cell 0;have k1:Y56.cell? ⟨w.heap.size,1,none⟩=some (.int .i64 v):=C55.o.bx.box.cell 1
    go_wp2_with fail
    refine(jB gc a52 t e53 v _ C55.o.bx.cur).mono ?_;rintro e y65 ⟨rfl,hc,hm⟩;obtain⟨S66,a67,e68,HS73⟩:∃(S:ByteArray) (a:Nat) (e:Int),eB t a52 e53=(S,a,e):=⟨_,_,_,rfl⟩;rw[HS73]at hc⊢;simp only at hc⊢
    replace HS73:=aa HS73
    have C69:=aa (C55.o.turn hc hm);have C70:=aa (C69.o.set 13 (.string S66) (p':={(PV59:Pk)with pass:=S66}) rfl ⟨rfl,rfl,rfl,rfl⟩);have fx:=C69.o.pk.free 13;have px:=(C69.o.pk.cell 13).trans (bZ _ _)
    clear hc hm k0 k1;obtain⟨Y71,hY72⟩:∃Y,y65.setCell ⟨w.heap.size+1+1,13,none⟩ (.string S66)=Y:=⟨_,rfl⟩;rw[hY72]at C70;obtain⟨PV74,hPV75⟩:∃P:Pk,{(PV59:Pk)with pass:=S66}=P:=⟨_,rfl⟩;rw[hPV75]at C70
    replace hPV75:=aa hPV75
    have HZ:Hid (RR=(PV74,a67,e68)):=aa (by rw[HQ62.o];unfold cn4;rw[if_pos hb64];simp only;rw[HS73.o,<-hPV75.out]);have hl:=cf C70.o.pk;have hst:=aW C70.o.res;go_wp2;refine av (fz rfl _ rfl (cO C70.o.res _ _)) rfl ?_;rw[HZ.o];exact C70.o.fin
  ·have hb61p:=((C55.o.pk.cell 10).trans (bW _ _)).trans (show _=some (Value.bool true) by rw[hb61]);have k0:Y56.cell? ⟨w.heap.size,0,none⟩=some (.pointer (some ⟨gc,0,none⟩)):=C55.o.bx.box.cell 0;have k1:Y56.cell? ⟨w.heap.size,1,none⟩=some (.int .i64 v):=C55.o.bx.box.cell 1
   go_wp2_with fail
   refine(ph gc a52 t e53 v _ C55.o.bx.cur).mono ?_;rintro e y76 ⟨rfl,hc,hm⟩;obtain⟨S77,a78,e79,HS84⟩:∃(S:ByteArray) (a:Nat) (e:Int),fX t a52 e53=(S,a,e):=⟨_,_,_,rfl⟩;rw[HS84]at hc⊢;simp only at hc⊢
   replace HS84:=aa HS84
   have C80:=aa (C55.o.turn hc hm);have C81:=aa (C80.o.set 11 (.string S77) (p':={(PV59:Pk)with user:=S77}) rfl ⟨rfl,rfl,rfl,rfl⟩);have fx:=C80.o.pk.free 11;have px:=(C80.o.pk.cell 11).trans (co _ _)
   clear hc hm k0 k1;obtain⟨Y82,hY83⟩:∃Y,y76.setCell ⟨w.heap.size+1+1,11,none⟩ (.string S77)=Y:=⟨_,rfl⟩;rw[hY83]at C81;obtain⟨PV85,hPV86⟩:∃P:Pk,{(PV59:Pk)with user:=S77}=P:=⟨_,rfl⟩;rw[hPV86]at C81
   replace hPV86:=aa hPV86
   have HQ63:Hid (RR=cn4 t (PV85,a78,e79)):=aa (by rw[HR3.o];unfold cn3;rw[if_pos hb61];simp only;rw[HS84.o,<-hPV86.out]);cases hb87:(PV85:Pk).hasPass
   ·have hb87p:=((C81.o.pk.cell 12).trans (bO _ _)).trans (show _=some (Value.bool false) by rw[hb87]);have HZ:Hid (RR=(PV85,a78,e79)):=aa (by rw[HQ63.o];unfold cn4;rw[ae (by rw[hb87];decide)]);have hl:=cf C81.o.pk;have hst:=aW C81.o.res;go_wp2;refine av (fz rfl _ rfl (cO C81.o.res _ _)) rfl ?_;rw[HZ.o];exact C81.o.fin
   ·have hb87p:=((C81.o.pk.cell 12).trans (bO _ _)).trans (show _=some (Value.bool true) by rw[hb87]);have k0:Y82.cell? ⟨w.heap.size,0,none⟩=some (.pointer (some ⟨gc,0,none⟩)):=C81.o.bx.box.cell 0;have k1:Y82.cell? ⟨w.heap.size,1,none⟩=some (.int .i64 v):=C81.o.bx.box.cell 1
    go_wp2_with fail
    refine(jB gc a78 t e79 v _ C81.o.bx.cur).mono ?_;rintro e y88 ⟨rfl,hc,hm⟩;obtain⟨S89,a90,e91,HS96⟩:∃(S:ByteArray) (a:Nat) (e:Int),eB t a78 e79=(S,a,e):=⟨_,_,_,rfl⟩;rw[HS96]at hc⊢;simp only at hc⊢
    replace HS96:=aa HS96
    have C92:=aa (C81.o.turn hc hm);have C93:=aa (C92.o.set 13 (.string S89) (p':={(PV85:Pk)with pass:=S89}) rfl ⟨rfl,rfl,rfl,rfl⟩);have fx:=C92.o.pk.free 13;have px:=(C92.o.pk.cell 13).trans (bZ _ _)
    clear hc hm k0 k1;obtain⟨Y94,hY95⟩:∃Y,y88.setCell ⟨w.heap.size+1+1,13,none⟩ (.string S89)=Y:=⟨_,rfl⟩;rw[hY95]at C93;obtain⟨PV97,hPV98⟩:∃P:Pk,{(PV85:Pk)with pass:=S89}=P:=⟨_,rfl⟩;rw[hPV98]at C93
    replace hPV98:=aa hPV98
    have HZ:Hid (RR=(PV97,a90,e91)):=aa (by rw[HQ63.o];unfold cn4;rw[if_pos hb87];simp only;rw[HS96.o,<-hPV98.out]);have hl:=cf C93.o.pk;have hst:=aW C93.o.res;go_wp2;refine av (fz rfl _ rfl (cO C93.o.res _ _)) rfl ?_;rw[HZ.o];exact C93.o.fin
end
section
attribute [local go_sem ↓] bD bF bH bI bu
attribute [local go_sem] bc aD bh bg bK bJ bd aY be aO ax cI dC dB dt dj di dA dr dp dn bW co bO bZ bX cz cy cw cu ct cC cn bS bP bR
theorem Bn(b:Bool)(c:Int)(l:List Pr)(A:Option Addr)(n:Nat)(w:World):(qP #[(0,.int .i64 2),(16,.bool b),(17,.int .i64 c),(20,.slice A l.length n)]).run prog w= .ok (pkV {pk0 with kind:=2,session:=b,code:=c,props:=l} {hs0 with props:=⟨A,n⟩}) w:=by kernel_rfl
theorem xv(gc:Nat)(t:ByteArray)(v:Int)(w:World)(h:Cur w gc t 0 0)(ht:t.size<=140737488351232):
  Calls prog 267 #[.agg #[.pointer (some ⟨gc,0,none⟩),.int .i64 v]] w (xM gc t (lL v t) w):=by
 have HX:=aa (BX.start h v);have HT:=aa ht;have HLT:=aa h.lt;have hne:w.heap.size≠gc:=by have:=h.lt;omega
 have HcF:Hid (caF t=(br t 0 0 1,(aH t 0 0 1).2.1,if br t 0 0 1<=1 then(aH t 0 0 1).2.2 else fh (aH t 0 0 1).2.2 7)):=aa rfl;have HcC:Hid (caC t=(br t (caF t).2.1 (caF t).2.2 1,(aH t (caF t).2.1 (caF t).2.2 1).2.1,(aH t (caF t).2.1 (caF t).2.2 1).2.2)):=aa rfl;have HcP:Hid (caP v t=fv v 2 t (caC t).2.1 (caC t).2.2):=aa rfl;have HcR:Hid (lL v t=(Ds (caF t).1 (caC t).1 (caP v t).1,(caP v t).2.1,(caP v t).2.2)):=aa rfl;generalize lL v t=RR at*;clear h ht;go_enter func267,ntmps267;have C0:=aa (HX.o.below ((aq _ _).alloc (ac _) (.cells (pkC pk0 hs0) PkT)));have R0:Hid (Bk ((w.alloc (.cells #[.pointer (some ⟨gc,0,none⟩),.int .i64 v] lP)).alloc (.cells (pkC pk0 hs0) PkT)) (w.heap.size+1) PkT (pkC pk0 hs0)):=aa (by simpa using Bk.fresh (w.alloc (.cells #[.pointer (some ⟨gc,0,none⟩),.int .i64 v] lP)) PkT (pkC pk0 hs0))
 go_wp2_with fail
 refine(dR gc 0 t 0 1 _ C0.o.cur (by decide)).mono ?_;rintro e x0 ⟨rfl,hc,hm⟩;have C1:=aa (C0.o.turn hc hm);have R1:=aa (R0.o.mods (S:=fun z=>z=gc) (Mods.of_grown hm rfl) (by have:=HLT.o;omega));have HN1:=aa (iV t 0 0);clear hc hm HX C0 R0;generalize br t 0 0 1=n1 at*;generalize (aH t 0 0 1).2.1=a1 at*;generalize (aH t 0 0 1).2.2=f1 at*;obtain⟨bl,hbl⟩:∃b,decide ((n1:Int)<=1)=b:=⟨_,rfl⟩;have HF:Hid (caF t=(n1,a1,if bl=true then f1 else fh f1 7)):=aa (by
  rw[HcF.o]
  by_cases hb:n1<=1
  ·rw[if_pos hb,<-hbl,if_pos (au (by omega))]
  ·rw[ae hb,<-hbl,ae (by rw[ah (by omega)];decide)])
 clear HcF;have k0:x0.cell? ⟨w.heap.size,0,none⟩=some (.pointer (some ⟨gc,0,none⟩)):=C1.o.box.cell 0;have k1:x0.cell? ⟨w.heap.size,1,none⟩=some (.int .i64 v):=C1.o.box.cell 1
 go_wp2_with fail
 refine(gM gc _ t _ v _ 7 _ C1.o.cur).mono ?_;rintro e x2 ⟨rfl,hcu,hmu⟩;have HM:=aa hmu;clear hmu k0 k1;have C2:=aa (C1.o.turn hcu HM.o);have R2:=aa (R1.o.mods (S:=fun z=>z=gc) (Mods.of_grown HM.o rfl) (by have:=HLT.o;omega));clear hcu HM C1 R1 hbl;generalize (if bl=true then f1 else fh f1 7)=e1 at*;have k0:x2.cell? ⟨w.heap.size,0,none⟩=some (.pointer (some ⟨gc,0,none⟩)):=C2.o.box.cell 0
 go_wp2_with fail
 refine(dR gc a1 t e1 1 _ C2.o.cur (by decide)).mono ?_;rintro e x3 ⟨rfl,hc,hm⟩;have C3:=aa (C2.o.turn hc hm);have R3:=aa (R2.o.mods (S:=fun z=>z=gc) (Mods.of_grown hm rfl) (by have:=HLT.o;omega));have HN2:=aa (iV t a1 e1);have HC:Hid (caC t=(br t a1 e1 1,(aH t a1 e1 1).2.1,(aH t a1 e1 1).2.2)):=aa (by rw[HcC.o,HF.o]);clear hc hm C2 R2 HcC k0;generalize br t a1 e1 1=n2 at*;generalize (aH t a1 e1 1).2.1=a2 at*;generalize (aH t a1 e1 1).2.2=e2 at*;have hw2:IntKind.i64.wrap (n2:Int)=(n2:Int):=by rw[aQ];have:=HN2.o;omega
 have k0:x3.cell? ⟨w.heap.size,0,none⟩=some (.pointer (some ⟨gc,0,none⟩)):=C3.o.box.cell 0;have k1:x3.cell? ⟨w.heap.size,1,none⟩=some (.int .i64 v):=C3.o.box.cell 1;obtain⟨b1,hb1⟩:∃b,((n1:Int)==1)=b:=⟨_,rfl⟩;have HB1:Hid (decide (n1=1)=b1):=aa (by rw[<-hb1];rw[eG,cH,aK];omega);have HPP:Hid (caP v t=fv v 2 t a2 e2):=aa (by rw[HcP.o,HC.o])
 go_wp2_with fail
 refine(qh gc a2 t e2 v 2 _ C3.o.cur HT.o).mono ?_;rintro e x4 ⟨A,c,rfl,hlc,hr,hc,hm⟩;rw[<-HPP.o]at hlc hr hc⊢;generalize caP v t=r at*;obtain⟨l,a3,e3⟩:=r;simp only at hlc hr hc HcR⊢;have C4:=aa (C3.o.turn hc hm);have R4:=aa (R3.o.mods (S:=fun z=>z=gc) (Mods.of_grown hm rfl) (by have:=HLT.o;omega));have HLC:=aa hlc;have HRD:=aa hr
 clear hlc hr hc hm C3 R3 HcP HPP hb1 k0 k1;have hbd:=Bn b1 (n2:Int) l A c;have hst:=aW R4.o;obtain⟨P,hP⟩:∃P:Pk,{pk0 with kind:=2,session:=b1,code:=(n2:Int),props:=l}=P:=⟨_,rfl⟩;obtain⟨H,hH⟩:∃H:Hs,{hs0 with props:=⟨A,c⟩}=H:=⟨_,rfl⟩;rw[hP,hH]at hbd;have HZ:Hid (RR=(P,a3,e3)):=aa (by
  rw[HcR.o,HF.o,HC.o,<-hP];unfold Ds;simp only;rw[HB1.o])
 have HI:Hid (PkIn x4 x4.heap.size P H):=aa (by
  rw[<-hP,<-hH];exact⟨Rd.nil _ _ _ _,Rd.nil _ _ _ _,Rd.nil _ _ _ _,HRD.o,ag _,ag _,ag _,HLC.o⟩)
 have HFL:Hid (P.codes=[]/\P.filters=[]):=aa (by rw[<-hP];exact⟨rfl,rfl⟩);clear hP hH HcR HF HC HB1 HRD HLC;go_wp2;refine av (fz rfl _ rfl (cO R4.o _ _)) rfl ?_;rw[HZ.o];have hm:=cJ x4 (w.heap.size+1) P H;have hg:=C4.o.mods;exact⟨H,rfl,HI.o.blk HFL.o.1 HFL.o.2 R4.o (dY _ _) hm,HFL.o,⟨C4.o.cur.1.mods (S:=fun z=>z=w.heap.size+1) (Mods.of_grown hm rfl) (by have:=HLT.o;omega),C4.o.cur.2⟩,
  ⟨hm.os.trans hg.os,hm.tape.trans hg.tape,hm.output.trans hg.output,aC hg.size hm.size,fun i hi hn=>(hm.block i (by have:=hg.size;omega) (fun e=>by cases e;omega)).trans (hg.block i hi hn)⟩⟩
theorem qg{v k:Int}{t:ByteArray}{a:Nat}{e:Int}(ht:t.size<=140737488351232):(∀p∈(fv v k t a e).1,ea p)/\(fv v k t a e).1.length<=1000:=by
 unfold fv;split
 ·exact⟨fun _ h=>(nomatch h),ag _⟩
 ·refine⟨iT (by rw[aj];omega),?_⟩;show(aZ k (t.extract a t.size)).1.length<=1000
  by_cases h:(aZ k (t.extract a t.size)).2.2=0
  ·exact kj h
  ·rw[fZ h];exact ag _
theorem qe{v k:Int}{t:ByteArray}{a:Nat}{e:Int}(h:a<=t.size):(fv v k t a e).2.1<=t.size:=by
 unfold fv;split
 ·exact h
 ·have:=ur k (t.extract a t.size);rw[aj]at this;show a+(aZ k (t.extract a t.size)).2.1<=t.size;omega
theorem nD(t:ByteArray)(a:Nat)(e:Int)(ha:a<=t.size):(fX t a e).1.size<=65535/\(fX t a e).2.1<=t.size:=⟨nw t a e ha,pH t a e ha⟩
structure RdOk (t:ByteArray) (r:Pk×Nat×Int):Prop where
 ok:PkOk r.1
 le:r.2.1<=t.size
theorem F6{v:Int}{t:ByteArray}(ht:t.size<=140737488351232):RdOk t (cn1 v t):=by
 have h0:(aH t 0 0 6).2.1<=t.size:=dy (ag _) _ _;have h1:(cnV v t).1<=t.size:=dy h0 _ _;have h2:(cnF v t).2.1<=t.size:=dy h1 _ _;have h3:(cnK v t).2.1<=t.size:=dy h2 _ _;have h4:(cnP v t).2.1<=t.size:=qe h3;have h5:=nD t (cnP v t).2.1 (cnP v t).2.2 h4;have h6:(∀p∈(cnP v t).1,ea p)/\(cnP v t).1.length<=1000:=qg ht;have hc:(cnT v t).1.size<=65535:=h5.1;exact⟨⟨fun _ h=>(nomatch h),h6.1,fun _ h=>(nomatch h),⟨ag _,ag _,aC hc (by decide),ag _,ag _,ag _,ag _⟩,ag _,ag _,ag _,aC h6.2 (by decide)⟩,h5.2⟩
theorem F5{v:Int}{t:ByteArray}(ht:t.size<=140737488351232){r:Pk×Nat×Int}(g:RdOk t r):RdOk t (cn2 v t r):=by
 unfold cn2;split
 ·have h1:(rA v t r.2.1 r.2.2).2.1<=t.size:=qe g.le;have h2:=nD t _ (rA v t r.2.1 r.2.2).2.2 h1;have h3:(Aw v t r.2.1 r.2.2).1.size<=65535:=nw t _ _ h2.2;have h4:(Aw v t r.2.1 r.2.2).2.1<=t.size:=pH t _ _ h2.2;have h5:(∀p∈(rA v t r.2.1 r.2.2).1,ea p)/\(rA v t r.2.1 r.2.2).1.length<=1000:=qg ht;have hc:(rz v t r.2.1 r.2.2).1.size<=65535:=h2.1;have hg:=g.ok.texts;exact⟨⟨h5.1,g.ok.props,g.ok.topics,⟨hg.1,hg.2.1,hg.2.2.1,hg.2.2.2.1,hg.2.2.2.2.1,aC hc (by decide),aC h3 (by decide)⟩,aC h5.2 (by decide),g.ok.lens.2⟩,h4⟩
 ·exact g
theorem F4{t:ByteArray}{r:Pk×Nat×Int}(g:RdOk t r):RdOk t (cn3 t r):=by
 unfold cn3;split
 ·have h2:=nD t r.2.1 r.2.2 g.le;have hg:=g.ok.texts;exact⟨⟨g.ok.wp,g.ok.props,g.ok.topics,⟨hg.1,hg.2.1,hg.2.2.1,aC h2.1 (by decide),hg.2.2.2.2.1,hg.2.2.2.2.2⟩,g.ok.lens⟩,h2.2⟩
 ·exact g
theorem FZ{t:ByteArray}{r:Pk×Nat×Int}(g:RdOk t r):RdOk t (cn4 t r):=by
 unfold cn4;split
 ·have h2:=nw t r.2.1 r.2.2 g.le;have hg:=g.ok.texts;exact⟨⟨g.ok.wp,g.ok.props,g.ok.topics,⟨hg.1,hg.2.1,hg.2.2.1,hg.2.2.2.1,aC h2 (by decide),hg.2.2.2.2.2⟩,g.ok.lens⟩,pH t _ _ g.le⟩
 ·exact g
theorem yL{v:Int}{t:ByteArray}(ht:t.size<=140737488351232):RdOk t (jS v t):=FZ (F4 (F5 ht (F6 ht)))
theorem yM{v:Int}{t:ByteArray}(ht:t.size<=140737488351232):RdOk t (lL v t):=by
 have h1:(caF t).2.1<=t.size:=dy (ag _) _ _;have h2:(caC t).2.1<=t.size:=dy h1 _ _;have h6:(∀p∈(caP v t).1,ea p)/\(caP v t).1.length<=1000:=qg ht;exact⟨⟨fun _ h=>(nomatch h),h6.1,fun _ h=>(nomatch h),⟨ag _,ag _,ag _,ag _,ag _,ag _,ag _⟩,ag _,ag _,ag _,aC h6.2 (by decide)⟩,qe h2⟩
structure RS (w:World) (gc gr gp:Nat) (v:Int) (p:Pk) (h:Hs) (t:ByteArray) (a:Nat) (e:Int) (x:World):Prop where
 kept:Below w.heap.size w x
 res:Bk x w.heap.size PkT (pkC pk0 hs0)
 box:Bk x gr lP #[.pointer (some ⟨gc,0,none⟩),.int .i64 v]
 pk:Bk x gp PkT (pkC p h)
 into:PkIn x x.heap.size p h
 flat:p.codes=[]/\p.filters=[]
 cur:Cur x gc t a e
 ne:w.heap.size<gc/\gc<gr/\gr<gp
section
variable {w x y:World} {gc gr gp:Nat} {v:Int} {p p':Pk} {h h':Hs} {t:ByteArray} {a a':Nat} {e e':Int}
theorem RS.below(c:RS w gc gr gp v p h t a e x)(hb:Below x.heap.size x y):RS w gc gr gp v p h t a e y:=
 ⟨c.kept.trans (hb.mono c.kept.size),c.res.below hb c.res.lt,c.box.below hb c.box.lt,c.pk.below hb c.pk.lt,c.into.next hb,c.flat,c.cur.below hb,c.ne⟩
theorem RS.drewN(c:RS w gc gr gp v p h t a e x)(n:Nat):RS w gc gr gp v p h t a e (x.drewN n):=c.below (aV (aq _ _) n)
theorem RS.turn(c:RS w gc gr gp v p h t a e x)(hc:Cur y gc t a' e')(hm:x.grownBy y (some gc)):RS w gc gr gp v p h t a' e' y:=
 ⟨dw c.kept hm c.kept.size (pf c.ne.1),c.res.mods (S:=fun z=>z=gc) (Mods.of_grown hm rfl) (by have:=c.ne;omega),c.box.mods (S:=fun z=>z=gc) (Mods.of_grown hm rfl) (by have:=c.ne;omega),
  c.pk.mods (S:=fun z=>z=gc) (Mods.of_grown hm rfl) (by have:=c.ne;omega),c.into.blk c.flat.1 c.flat.2 c.cur.1 (gw _ _ _) hm,c.flat,hc,c.ne⟩
theorem RS.put(c:RS w gc gr gp v p h t a e x)(hi:PkIn x x.heap.size p' h')(hf:p'.codes=[]/\p'.filters=[]):RS w gc gr gp v p' h' t a e (dE x gp p' h'):=by
 have hm:=cJ x gp p' h';exact⟨bT c.kept c.kept.size (by have:=c.ne;omega) _ _,c.res.mods (S:=fun z=>z=gp) (Mods.of_grown hm rfl) (by have:=c.ne;omega),c.box.mods (S:=fun z=>z=gp) (Mods.of_grown hm rfl) (by have:=c.ne;omega),
  cO c.pk _ _,hi.blk hf.1 hf.2 c.pk (dY _ _) hm,hf,⟨c.cur.1.mods (S:=fun z=>z=gp) (Mods.of_grown hm rfl) (by have:=c.ne;omega),c.cur.2⟩,c.ne⟩
theorem RS.bad(c:RS w gc gr gp v p h t a e x){r:Pk×Int}{n:Int}(hr:r=(pk0,n)):mu r w (.returned (.tuple #[pkV pk0 hs0,.int .i64 n])) (dE x w.heap.size pk0 hs0):=
 cL hr (bT c.kept c.kept.size (ac _) _ _)
theorem RS.good(c:RS w gc gr gp v p h t a e x){r:Pk×Int}(hr:r=(p,0)):mu r w (.returned (.tuple #[pkV p h,.int .i64 0])) (dE x w.heap.size p h):=
 fo hr (c.into.blk c.flat.1 c.flat.2 c.res (dY _ _) (cJ _ _ _ _)) (bT c.kept c.kept.size (ac _) _ _)
end
theorem vI(v k:Int)(s:ByteArray)(w:World)(hs:s.size<=140737488351232):
  Calls prog 194 #[.int .i64 v,.int .i64 k,.string s] w (mu (iB v k s) w):=by
 have HS:=aa hs;have HB0:=aa ((aq w.heap.size w).alloc (ac _) (.cells (pkC pk0 hs0) PkT));have HR0:=aa (Bk.fresh w PkT (pkC pk0 hs0));have hst0:=aW HR0.o;have HE:Hid (iB v k s=if ba v=false\/gm k=false then(pk0,2)else jT v s (if k=1 then jS v s else lL v s)):=aa rfl;clear hs;go_enter func194,ntmps194
 go_wp2_with fail
 refine(np v _).mono ?_;rintro e w1 ⟨rfl,rfl⟩;cases hk:ba v
 ·have HX:Hid (iB v k s=(pk0,2)):=aa (by rw[HE.o,if_pos (.inl hk)]);clear hk;go_wp2;refine av (aI rfl _ rfl (cO HR0.o _ _)) rfl ?_;exact cL HX.o (bT HB0.o HB0.o.size (ac _) _ _)
 go_wp2_with fail
 refine(oU k _).mono ?_;rintro e w1 ⟨rfl,rfl⟩;cases ho:gm k
 ·have HX:Hid (iB v k s=(pk0,2)):=aa (by rw[HE.o,if_pos (.inr ho)]);clear hk ho;go_wp2;refine av (aI rfl _ rfl (cO HR0.o _ _)) rfl ?_;exact cL HX.o (bT HB0.o HB0.o.size (ac _) _ _)
 have HV:Hid (v=4\/v=5):=aa (aR (show decide (v=4\/v=5)=true from hk));have HF:Hid (iB v k s=jT v s (if k=1 then jS v s else lL v s)):=aa (by rw[HE.o,ae (fun x=>x.elim (fun y=>by rw[hk]at y;cases y) (fun y=>by rw[ho]at y;cases y))]);clear hk ho hst0 HE
 go_wp2_with fail
 refine(jL s _ (by have:=HS.o;omega)).mono ?_;rintro e w1 ⟨rfl,hcu,hb⟩;have hgc:(w.alloc (.cells (pkC pk0 hs0) PkT)).heap.size=w.heap.size+1:=by simp
 rw[hgc]at hcu⊢;have HZ:=aa hcu.lt;have I0:Hid (RS w (w.heap.size+1) w1.heap.size (w1.heap.size+1) v pk0 hs0 s 0 0 ((w1.alloc (.cells #[.pointer (some ⟨w.heap.size+1,0,none⟩),.int .i64 v] lP)).alloc (.cells (pkC pk0 hs0) PkT))):=aa
  ⟨((HB0.o.trans (hb.mono HB0.o.size)).alloc (HB0.o.trans (hb.mono HB0.o.size)).size _).alloc (by have:=(HB0.o.trans (hb.mono HB0.o.size)).size;simp;omega) _,((HR0.o.below hb HR0.o.lt).alloc _).alloc _,(Bk.fresh w1 lP _).alloc _,
    (by simpa using Bk.fresh (w1.alloc (.cells #[.pointer (some ⟨w.heap.size+1,0,none⟩),.int .i64 v] lP)) PkT (pkC pk0 hs0)),wM _ _,⟨rfl,rfl⟩,⟨(hcu.1.alloc _).alloc _,hcu.2⟩,by omega,HZ.o,by omega⟩
 have hbox:=Bk.fresh w1 lP #[.pointer (some ⟨w.heap.size+1,0,none⟩),.int .i64 v];clear hcu hb hgc HB0 HR0 HZ
 by_cases hk1:k=1
 ·have e1:(k==1)=true:=aK.2 hk1;have HG:Hid (iB v k s=jT v s (jS v s)):=aa (by rw[HF.o,if_pos hk1]);have HOK:=aa (yL (v:=v) HS.o).ok;clear hk1
  go_wp2_with fail
  refine(xu (w.heap.size+1) s v _ I0.o.cur HS.o HV.o).mono ?_;rintro e y ⟨kk,rfl,hi,hf,hc,hm⟩;generalize jS v s=r at*;obtain⟨P,a,e⟩:=r;simp only at hi hf hc HOK⊢;have I1:=aa (I0.o.turn hc hm);have I2:=aa (I1.o.put hi hf);have hst:=aW I1.o.pk;clear hi hf hc hm hbox;obtain⟨Y,hY⟩:∃Y,dE y (w1.heap.size+1) P kk=Y:=⟨_,rfl⟩;rw[hY]at I2;obtain⟨bz,hbz⟩:∃b,(((s.size- a:Nat):Int)==0)=b:=⟨_,rfl⟩;have HEN:Hid (oV s (P,a,e)=if bz=true then e else fh e 5):=aa (by
   unfold oV;simp only
   by_cases hz:s.size- a=0
   ·rw[if_pos hz,<-hbz,if_pos (by rw[hz];rfl)]
   ·rw[ae hz,<-hbz,ae (by intro x;exact hz (by have:=aK.1 x;omega))])
  have hsb:SB w1.heap.size (w.heap.size+1) v Y Y:=⟨I2.o.box.cell 0,I2.o.box.cell 1,lz _ _⟩;have hne:w1.heap.size≠w.heap.size+1:=by have:=I2.o.ne;omega
  go_wp2_with fail
  clear hst hY
  go_region_held3 (fun x=>x.cell? ⟨w1.heap.size,0,none⟩=some (.pointer (some ⟨w.heap.size+1,0,none⟩))/\x.cell? ⟨w1.heap.size,1,none⟩=some (.int .i64 v)/\Y.grownBy x (some (w.heap.size+1)))
   (first| exact SB.below hsb (aV (aq _ _) _) | exact SB.below (by assumption) hm1| exact SB.turn (by assumption) hmu hne| go_keep)
   (first| (go_at_call 114;refine(eI (w.heap.size+1) a s e _ (I2.o.drewN 1).cur).mono ?_;rintro e x1 ⟨rfl,hm1⟩)
         | (go_at_call 268;refine(gM (w.heap.size+1) a s e v _ 5 _ ((I2.o.drewN 1).below hm1).cur).mono ?_;rintro e x2 ⟨rfl,hcu,hmu⟩))
  have HM:=aa (show SB w1.heap.size (w.heap.size+1) v Y x2 by assumption).2.2;clear hsb hmu hm1 hne hbz;have I3:=aa (I2.o.turn hcu HM.o);clear hcu HM I2 I1 I0;generalize (if bz=true then e else fh e 5)=e3 at*;have k0:x2.cell? ⟨w1.heap.size,0,none⟩=some (.pointer (some ⟨w.heap.size+1,0,none⟩)):=I3.o.box.cell 0
  go_wp2_with fail
  refine(dG (w.heap.size+1) a s e3 _ I3.o.cur).mono ?_;rintro e' w2 ⟨rfl,rfl⟩;have hst:=aW I3.o.res
  by_cases h3:e3=0
  rotate_left
  ·have b3:(e3 !=0)=true:=aA.2 h3;have HX:Hid (iB v k s=(pk0,e3)):=aa (by rw[HG.o];unfold jT;rw[HEN.o,if_pos h3]);clear h3;go_wp2;refine av (aI rfl _ rfl (cO I3.o.res _ _)) rfl ?_;exact I3.o.bad HX.o
  have HG2:Hid (iB v k s=if eR v P≠0 then(pk0,eR v P)else(P,0)):=aa (by rw[HG.o];unfold jT;rw[HEN.o,ae (fun x=>x h3)]);have b3:(e3 !=0)=false:=by rw[h3];rfl
  have hl:=cf I3.o.pk;clear h3 hst
  go_wp2_with fail
  refine(nn v P kk _ I3.o.into HOK.o).mono ?_;rintro e' x3 ⟨rfl,hb⟩;have I4:=aa (I3.o.below hb);have hst:=aW I4.o.res;have hl:=cf I4.o.pk;clear hb k0;generalize eR v P=E at*
  by_cases hE:E=0
  ·have HX:Hid (iB v k s=(P,0)):=aa (by rw[HG2.o,ae (fun x=>x hE)]);have bE:(E !=0)=false:=by rw[hE];rfl
   clear hE;go_wp2;refine av (aI rfl _ rfl (cO I4.o.res _ _)) rfl ?_;exact I4.o.good HX.o
  ·have HX:Hid (iB v k s=(pk0,E)):=aa (by rw[HG2.o,if_pos hE]);have bE:(E !=0)=true:=aA.2 hE;clear hE;go_wp2;refine av (aI rfl _ rfl (cO I4.o.res _ _)) rfl ?_;exact I4.o.bad HX.o
 ·have e1:(k==1)=false:=ar.2 hk1;have HG:Hid (iB v k s=jT v s (lL v s)):=aa (by rw[HF.o,ae hk1]);have HOK:=aa (yM (v:=v) HS.o).ok;clear hk1
  go_wp2_with fail
  refine(xv (w.heap.size+1) s v _ I0.o.cur HS.o).mono ?_;rintro e y ⟨kk,rfl,hi,hf,hc,hm⟩;generalize lL v s=r at*;obtain⟨P,a,e⟩:=r;simp only at hi hf hc HOK⊢;have I1:=aa (I0.o.turn hc hm);have I2:=aa (I1.o.put hi hf);have hst:=aW I1.o.pk;clear hi hf hc hm hbox;obtain⟨Y,hY⟩:∃Y,dE y (w1.heap.size+1) P kk=Y:=⟨_,rfl⟩;rw[hY]at I2;obtain⟨bz,hbz⟩:∃b,(((s.size- a:Nat):Int)==0)=b:=⟨_,rfl⟩;have HEN:Hid (oV s (P,a,e)=if bz=true then e else fh e 5):=aa (by
   unfold oV;simp only
   by_cases hz:s.size- a=0
   ·rw[if_pos hz,<-hbz,if_pos (by rw[hz];rfl)]
   ·rw[ae hz,<-hbz,ae (by intro x;exact hz (by have:=aK.1 x;omega))])
  have hsb:SB w1.heap.size (w.heap.size+1) v Y Y:=⟨I2.o.box.cell 0,I2.o.box.cell 1,lz _ _⟩;have hne:w1.heap.size≠w.heap.size+1:=by have:=I2.o.ne;omega
  go_wp2_with fail
  clear hst hY
  go_region_held3 (fun x=>x.cell? ⟨w1.heap.size,0,none⟩=some (.pointer (some ⟨w.heap.size+1,0,none⟩))/\x.cell? ⟨w1.heap.size,1,none⟩=some (.int .i64 v)/\Y.grownBy x (some (w.heap.size+1)))
   (first| exact SB.below hsb (aV (aq _ _) _) | exact SB.below (by assumption) hm1| exact SB.turn (by assumption) hmu hne| go_keep)
   (first| (go_at_call 114;refine(eI (w.heap.size+1) a s e _ (I2.o.drewN 1).cur).mono ?_;rintro e x1 ⟨rfl,hm1⟩)
         | (go_at_call 268;refine(gM (w.heap.size+1) a s e v _ 5 _ ((I2.o.drewN 1).below hm1).cur).mono ?_;rintro e x2 ⟨rfl,hcu,hmu⟩))
  have HM:=aa (show SB w1.heap.size (w.heap.size+1) v Y x2 by assumption).2.2;clear hsb hmu hm1 hne hbz;have I3:=aa (I2.o.turn hcu HM.o);clear hcu HM I2 I1 I0;generalize (if bz=true then e else fh e 5)=e3 at*;have k0:x2.cell? ⟨w1.heap.size,0,none⟩=some (.pointer (some ⟨w.heap.size+1,0,none⟩)):=I3.o.box.cell 0
  go_wp2_with fail
  refine(dG (w.heap.size+1) a s e3 _ I3.o.cur).mono ?_;rintro e' w2 ⟨rfl,rfl⟩;have hst:=aW I3.o.res
  by_cases h3:e3=0
  rotate_left
  ·have b3:(e3 !=0)=true:=aA.2 h3;have HX:Hid (iB v k s=(pk0,e3)):=aa (by rw[HG.o];unfold jT;rw[HEN.o,if_pos h3]);clear h3;go_wp2;refine av (aI rfl _ rfl (cO I3.o.res _ _)) rfl ?_;exact I3.o.bad HX.o
  have HG2:Hid (iB v k s=if eR v P≠0 then(pk0,eR v P)else(P,0)):=aa (by rw[HG.o];unfold jT;rw[HEN.o,ae (fun x=>x h3)]);have b3:(e3 !=0)=false:=by rw[h3];rfl
  have hl:=cf I3.o.pk;clear h3 hst
  go_wp2_with fail
  refine(nn v P kk _ I3.o.into HOK.o).mono ?_;rintro e' x3 ⟨rfl,hb⟩;have I4:=aa (I3.o.below hb);have hst:=aW I4.o.res;have hl:=cf I4.o.pk;clear hb k0;generalize eR v P=E at*
  by_cases hE:E=0
  ·have HX:Hid (iB v k s=(P,0)):=aa (by rw[HG2.o,ae (fun x=>x hE)]);have bE:(E !=0)=false:=by rw[hE];rfl
   clear hE;go_wp2;refine av (aI rfl _ rfl (cO I4.o.res _ _)) rfl ?_;exact I4.o.good HX.o
  ·have HX:Hid (iB v k s=(pk0,E)):=aa (by rw[HG2.o,if_pos hE]);have bE:(E !=0)=true:=aA.2 hE;clear hE;go_wp2;refine av (aI rfl _ rfl (cO I4.o.res _ _)) rfl ?_;exact I4.o.bad HX.o
end
theorem Qj:∀q:Fin 3,∀a b c d e:Bool,
  decide ((pc e 128+pc d 64+pc c 32+(q.1:Int) % 4*8+pc b 4+pc a 2).toNat/ 2% 2=1)=a/\decide ((pc e 128+pc d 64+pc c 32+(q.1:Int) % 4*8+pc b 4+pc a 2).toNat/ 4% 2=1)=b/\
  decide ((pc e 128+pc d 64+pc c 32+(q.1:Int) % 4*8+pc b 4+pc a 2).toNat/ 32% 2=1)=c/\decide ((pc e 128+pc d 64+pc c 32+(q.1:Int) % 4*8+pc b 4+pc a 2).toNat/ 64% 2=1)=d/\
  decide ((pc e 128+pc d 64+pc c 32+(q.1:Int) % 4*8+pc b 4+pc a 2).toNat/ 128% 2=1)=e/\(pc e 128+pc d 64+pc c 32+(q.1:Int) % 4*8+pc b 4+pc a 2).toNat/ 8% 4=q.1/\
  (pc e 128+pc d 64+pc c 32+(q.1:Int) % 4*8+pc b 4+pc a 2).toNat% 2=0/\(pc e 128+pc d 64+pc c 32+(q.1:Int) % 4*8+pc b 4+pc a 2).toNat<256/\
  (c=false->q.1=0->(pc e 128+pc d 64+pc c 32+(q.1:Int) % 4*8+pc b 4+pc a 2).toNat/ 8% 8=0):=by decide+kernel
theorem EG:∀f:Fin 256,f.1% 2=0->pc (decide (f.1/ 128% 2=1)) 128+pc (decide (f.1/ 64% 2=1)) 64+pc (decide (f.1/ 32% 2=1)) 32+((f.1/ 8% 4:Nat):Int) % 4*8+pc (decide (f.1/ 4% 2=1)) 4+pc (decide (f.1/ 2% 2=1)) 2=(f.1:Int):=by decide+kernel
theorem su{v:Int}{p:Pk}(x:eR v p=0)(h1:p.kind=1):CnGood v p:=by
 obtain⟨g1,-,g3,g4⟩:=nq x;obtain⟨-,⟨c1,c2⟩,c3,⟨c4,c5⟩,c6,c7⟩:=mM x;have hv:v=4\/v=5:=aR (show decide (v=4\/v=5)=true from g1);unfold dU at g4;split at g4
 ·cases g4
 ·next hp=>
  rw[ae (by omega)]at g4;split at g4
  ·cases g4
  ·next hq=>
   have hr:=aR g4;refine⟨hv,h1,g3,fun h4=>?_,⟨hr.1,hr.2.1⟩,⟨hr.2.2.1,hr.2.2.2⟩,fun h4 hpw=>?_,c1,c2,fun hw=>uV (c3 hw),c4,c5,by rw[<-h1];exact c6,c7⟩
   ·have:¬0<p.props.length+p.will.props.length:=fun y=>hp ⟨h4,y⟩;exact⟨aF (by omega),aF (by omega)⟩
   ·cases hu:p.hasUser
    ·exact absurd ⟨h4,.inr ⟨hpw,hu⟩⟩ hq
    ·rfl
structure FlGood (v:Int) (p:Pk) (f:Nat):Prop where
 clean:decide (f/ 2% 2=1)=p.clean
 will:decide (f/ 4% 2=1)=p.hasWill
 retain:decide (f/ 32% 2=1)=p.will.retain
 pass:decide (f/ 64% 2=1)=p.hasPass
 user:decide (f/ 128% 2=1)=p.hasUser
 qos:((f/ 8% 4:Nat):Int)=p.will.qos
 lt:f<256
 ok:tu v f=true
theorem CnGood.nowill{v:Int}{p:Pk}(g:CnGood v p)(h:p.hasWill=false):p.will=wl0:=by
 have e:=g.same;rw[vJ (by rw[g.kind];decide) h rfl rfl]at e;exact congrArg Pk.will e
theorem CnGood.nouser{v:Int}{p:Pk}(g:CnGood v p)(h:p.hasUser=false):p.user=⟨#[]⟩:=by
 have e:=g.same;rw[vJ (by rw[g.kind];decide) rfl h rfl]at e;exact congrArg Pk.user e
theorem CnGood.nopass{v:Int}{p:Pk}(g:CnGood v p)(h:p.hasPass=false):p.pass=⟨#[]⟩:=by
 have e:=g.same;rw[vJ (by rw[g.kind];decide) rfl rfl h]at e;exact congrArg Pk.pass e
theorem Ld{v:Int}{p:Pk}(g:CnGood v p):FlGood v p (flN p).toNat:=by
 obtain⟨m,hm⟩:∃m:Fin 3,p.will.qos=(m.1:Int):=⟨⟨p.will.qos.toNat,by have:=g.qos;omega⟩,by have:=g.qos;simp only;omega⟩;obtain⟨h1,h2,h3,h4,h5,h6,h7,h8,h9⟩:=Qj m p.clean p.hasWill p.will.retain p.hasPass p.hasUser;have hf:flN p=pc p.hasUser 128+pc p.hasPass 64+pc p.will.retain 32+(m.1:Int) % 4*8+pc p.hasWill 4+pc p.clean 2:=by unfold flN;rw[hm]
 rw[<-hf]at h1 h2 h3 h4 h5 h6 h7 h8 h9;refine⟨h1,h2,h3,h4,h5,by rw[h6,hm],h8,?_⟩;unfold tu;rw[h2,h4,h5,ah (show ¬(flN p).toNat% 2=1 by omega),ah (show ¬(flN p).toNat/ 8% 4=3 by have:=m.2;omega)];have hw:(!p.hasWill&&decide ((flN p).toNat/ 8% 8≠0))=false:=by
  cases hh:p.hasWill
  ·have hz:=g.nowill hh;rw[ah (fun y=>y (h9 (by rw[hz];rfl) (by have:p.will.qos=0:=by rw[hz];rfl
                                                                omega)))]
   rfl
  ·rfl
 rw[hw];rcases g.ver with h| h
 ·cases hp:p.hasPass
  ·simp
  ·rw[g.pair h hp];simp
 ·rw[au h];simp
theorem Kj:(ls i8).length=6:=rfl
theorem NO{v:Int}{p:Pk}(g:CnGood v p)(hn:∀q∈p.props,q.n<4294967296){t:ByteArray}{R:List UInt8}(ht:ls t=f1 v p R):
  ∃a,cn1 v t=(xz (flN p).toNat p.alive.toNat p.client p.props,a,0)/\a<=t.size/\(ls t).drop a=R:=by
 have fg:=Ld g;unfold f1 at ht;have hl:=congrArg List.length ht;rw[aN]at hl;simp only[List.length_append,fM,Kj]at hl;have d6:=congrArg (List.drop 6) ht;rw[GU Kj]at d6;have d7:=congrArg (List.drop 1) d6;rw[et,GU (fM _ _)]at d7
 replace d7:(ls t).drop 7=_:=d7
 have d8:=congrArg (List.drop 1) d7;rw[et,GU (fM _ _)]at d8
 replace d8:(ls t).drop 8=_:=d8
 have d10:=congrArg (List.drop 2) d8;rw[et,GU (fM _ _)]at d10
 replace d10:(ls t).drop 10=_:=d10
 have hv:v.toNat<256/\((v.toNat:Nat):Int)=v:=by have:=g.ver;omega
 have hN:stN t=(6,0):=by
  unfold stN;have h6:aH t 0 0 6=(t.extract 0 (0+6),0+6,0):=dZ (k:=6) (by omega);have hx:t.extract 0 (0+6)=i8:=eX (by
   rw[db,cS,ht];exact List.take_left' Kj)
  rw[h6,hx];show((0+6:Nat),if i8=i8 then(0:Int)else fh 0 5)=_;rw[if_pos rfl]
 have hV:cnV v t=(7,0):=by
  unfold cnV stV;rw[hN];simp only;have h1:aH t 6 0 1=(t.extract 6 (6+1),6+1,0):=dZ (k:=1) (by omega);have h2:br t 6 0 1=v.toNat:=by rw[show((1:Int))=((1:Nat):Int)from rfl,sc (k:=1) d6 (fM _ _) (by omega),Jd _ hv.1]
  rw[h1,h2,if_pos hv.2]
 have hF:cnF v t=((flN p).toNat,8,0):=by
  unfold cnF stG;rw[hV];simp only;have h1:aH t 7 0 1=(t.extract 7 (7+1),7+1,0):=dZ (k:=1) (by omega);have h2:br t 7 0 1=(flN p).toNat:=by rw[show((1:Int))=((1:Nat):Int)from rfl,sc (k:=1) d7 (fM _ _) (by omega),Jd _ fg.lt]
  rw[h1,h2,if_pos fg.ok]
 have hK:cnK v t=(p.alive.toNat,10,0):=by
  unfold cnK stK;rw[hF];simp only;have h1:aH t 8 0 2=(t.extract 8 (8+2),8+2,0):=dZ (k:=2) (by omega);have h2:br t 8 0 2=p.alive.toNat:=by rw[show((2:Int))=((2:Nat):Int)from rfl,sc (k:=2) d8 (fM _ _) (by omega),H7 _ (by have:=g.alive;omega)]
  rw[h1,h2]
 obtain⟨hP,hPle,dP⟩:=JG (v:=v) (k:=1) (a:=10) (by omega) (fun h=>(g.old h).1) g.props hn d10;have hP':cnP v t=(p.props,10+(gP v 1 p.props).length,0):=by unfold cnP;rw[hK];exact hP
 obtain⟨hT,hTle,dT⟩:=Jg hPle g.client dP;have hT':cnT v t=(p.client,10+(gP v 1 p.props).length+2+p.client.size,0):=by unfold cnT;rw[hP'];exact hT
 refine⟨_,?_,hTle,dT⟩;unfold cn1;rw[hF,hK,hP',hT']
theorem NN{v:Int}{p:Pk}(g:CnGood v p)(hn:∀q∈p.will.props,q.n<4294967296){t:ByteArray}{R:List UInt8}{a:Nat}(ha:a<=t.size){P:Pk}(h1:P.hasWill=p.hasWill)(h2:P.will= {wl0 with qos:=p.will.qos,retain:=p.will.retain})
  (ht:(ls t).drop a=fW v p R):∃a',cn2 v t (P,a,0)=({P with will:=p.will},a',0)/\a'<=t.size/\(ls t).drop a'=R:=by
 unfold cn2 fW at*;simp only;cases hw:p.hasWill
 ·rw[ae (by rw[h1,hw];decide)];rw[hw,ae (by decide)]at ht;refine⟨a,?_,ha,ht⟩;have:=g.nowill hw;rw[this]at h2⊢;rw[<-show P.will=wl0 from h2]
 ·rw[if_pos (by rw[h1,hw])];rw[hw,if_pos rfl]at ht;obtain⟨e1,l1,d1⟩:=JG ha (fun h=>(g.old h).2) g.wprops hn ht;obtain⟨e2,l2,d2⟩:=Jg l1 (g.topic hw) d1;obtain⟨e3,l3,d3⟩:=JK l2 g.payload d2;refine⟨_,?_,l3,d3⟩;have w1:rA v t a 0=(p.will.props,a+(gP v 16 p.will.props).length,0):=e1;have w2:rz v t a 0=(p.will.topic,a+(gP v 16 p.will.props).length+2+p.will.topic.size,0):=by unfold rz;rw[w1];exact e2
  have w3:Aw v t a 0=(p.will.payload,a+(gP v 16 p.will.props).length+2+p.will.topic.size+2+p.will.payload.size,0):=by unfold Aw;rw[w2];exact e3
  rw[w1,w2,w3,h2]
theorem NM{v:Int}{p:Pk}(g:CnGood v p){t:ByteArray}{R:List UInt8}{a:Nat}(ha:a<=t.size){P:Pk}(h1:P.hasUser=p.hasUser)(h2:P.user=⟨#[]⟩)(ht:(ls t).drop a=fU p R):
  ∃a',cn3 t (P,a,0)=({P with user:=p.user},a',0)/\a'<=t.size/\(ls t).drop a'=R:=by
 unfold cn3 fU at*;simp only;cases hw:p.hasUser
 ·rw[ae (by rw[h1,hw];decide)];rw[hw,ae (by decide)]at ht;refine⟨a,?_,ha,ht⟩;rw[g.nouser hw,<-h2]
 ·rw[if_pos (by rw[h1,hw])];rw[hw,if_pos rfl]at ht;obtain⟨e2,l2,d2⟩:=Jg ha g.user ht;refine⟨_,?_,l2,d2⟩;rw[e2]
theorem NK{v:Int}{p:Pk}(g:CnGood v p){t:ByteArray}{R:List UInt8}{a:Nat}(ha:a<=t.size){P:Pk}(h1:P.hasPass=p.hasPass)(h2:P.pass=⟨#[]⟩)(ht:(ls t).drop a=fS p R):
  ∃a',cn4 t (P,a,0)=({P with pass:=p.pass},a',0)/\a'<=t.size/\(ls t).drop a'=R:=by
 unfold cn4 fS at*;simp only;cases hw:p.hasPass
 ·rw[ae (by rw[h1,hw];decide)];rw[hw,ae (by decide)]at ht;refine⟨a,?_,ha,ht⟩;rw[g.nopass hw,<-h2]
 ·rw[if_pos (by rw[h1,hw])];rw[hw,if_pos rfl]at ht;obtain⟨e2,l2,d2⟩:=JK ha g.pass ht;refine⟨_,?_,l2,d2⟩;rw[e2]
theorem MG{v:Int}{p:Pk}(g:CnGood v p)(hn:∀q∈p.props,q.n<4294967296)(hw:∀q∈p.will.props,q.n<4294967296){t:ByteArray}{R:List UInt8}(ht:ls t=f1 v p (fW v p (fU p (fS p R)))):
  ∃a,jS v t=(p,a,0)/\a<=t.size/\(ls t).drop a=R:=by
 have fg:=Ld g;obtain⟨a1,e1,l1,d1⟩:=NO g hn ht;obtain⟨a2,e2,l2,d2⟩:=NN g hw l1 (P:=xz (flN p).toNat p.alive.toNat p.client p.props) fg.will (by
  show({wl0 with qos:=(((flN p).toNat/ 8% 4:Nat):Int),retain:=decide ((flN p).toNat/ 32% 2=1)}:Wl)=_;rw[fg.qos,fg.retain]) d1
 obtain⟨a3,e3,l3,d3⟩:=NM g l2 (P:={xz (flN p).toNat p.alive.toNat p.client p.props with will:=p.will}) fg.user rfl d2;obtain⟨a4,e4,l4,d4⟩:=NK g l3 (P:={xz (flN p).toNat p.alive.toNat p.client p.props with will:=p.will,user:=p.user}) fg.pass rfl d3;refine⟨a4,?_,l4,d4⟩;unfold jS;rw[e1,e2,e3,e4];have e:=g.same;rw[vJ (by rw[g.kind];decide) rfl rfl rfl]at e;obtain⟨-,q2,q3,q4,q5,q6,q7,-,-,-,-,-,-,-,-,-,q17,q18,q19,q20,-⟩:=(nQ _ _).1 e
 congr 1
 rw[nQ];refine⟨g.kind.symm,q2.symm,q3.symm,q4.symm,q5.symm,q6.symm,q7.symm,fg.clean,?_,rfl,fg.user,rfl,fg.pass,rfl,fg.will,rfl,q17.symm,q18.symm,q19.symm,q20.symm,rfl⟩;show((p.alive.toNat:Nat):Int)=p.alive;have:=g.alive;omega
theorem Dn{t:ByteArray}{r:Pk×Nat×Int}(hr:r.2.1<=t.size)(h:(cn4 t r).2.2=0):r.2.2=0/\(cn4 t r).2.1<=t.size/\(∃x,(cn4 t r).1= {r.1 with pass:=x})/\(ls t).drop r.2.1=fS (cn4 t r).1 ((ls t).drop (cn4 t r).2.1):=by
 unfold cn4 at h⊢;cases hw:r.1.hasPass
 ·rw[hw,ae (by decide)]at h;rw[ae (by decide)];refine⟨h,hr,⟨r.1.pass,rfl⟩,?_⟩;unfold fS;rw[hw,ae (by decide)]
 ·rw[hw,if_pos rfl]at h;rw[if_pos rfl];obtain⟨h1,h2,-,h4⟩:=xC h;refine⟨h1,h2,⟨_,rfl⟩,?_⟩;unfold fS;simp only;rw[hw,if_pos rfl];exact h4
theorem Dp{t:ByteArray}{r:Pk×Nat×Int}(hr:r.2.1<=t.size)(h:(cn3 t r).2.2=0):r.2.2=0/\(cn3 t r).2.1<=t.size/\(∃x,(cn3 t r).1= {r.1 with user:=x})/\(ls t).drop r.2.1=fU (cn3 t r).1 ((ls t).drop (cn3 t r).2.1):=by
 unfold cn3 at h⊢;cases hw:r.1.hasUser
 ·rw[hw,ae (by decide)]at h;rw[ae (by decide)];refine⟨h,hr,⟨r.1.user,rfl⟩,?_⟩;unfold fU;rw[hw,ae (by decide)]
 ·rw[hw,if_pos rfl]at h;rw[if_pos rfl];obtain⟨h1,h2,-,-,h4⟩:=sC h;refine⟨h1,h2,⟨_,rfl⟩,?_⟩;unfold fU;simp only;rw[hw,if_pos rfl];exact h4
theorem vK{v:Int}{t:ByteArray}{r:Pk×Nat×Int}(hr:r.2.1<=t.size)(h:(cn2 v t r).2.2=0):
  r.2.2=0/\(cn2 v t r).2.1<=t.size/\(∃x y z,(cn2 v t r).1= {r.1 with will:={r.1.will with props:=x,topic:=y,payload:=z}})/\(ls t).drop r.2.1=fW v (cn2 v t r).1 ((ls t).drop (cn2 v t r).2.1):=by
 unfold cn2 at h⊢;cases hw:r.1.hasWill
 ·rw[hw,ae (by decide)]at h;rw[ae (by decide)];refine⟨h,hr,⟨r.1.will.props,r.1.will.topic,r.1.will.payload,rfl⟩,?_⟩;unfold fW;rw[hw,ae (by decide)]
 ·rw[hw,if_pos rfl]at h;rw[if_pos rfl];obtain⟨b1,b2,-,b4⟩:=xC (t:=t) (a:=(rz v t r.2.1 r.2.2).2.1) (e:=(rz v t r.2.1 r.2.2).2.2) h;obtain⟨c1,-,-,-,c4⟩:=sC (t:=t) (a:=(rA v t r.2.1 r.2.2).2.1) (e:=(rA v t r.2.1 r.2.2).2.2) b1;obtain⟨d1,-,-,-,d4⟩:=yv (v:=v) (k:=16) hr c1;refine⟨d1,b2,⟨_,_,_,rfl⟩,?_⟩;unfold fW;simp only;rw[hw,if_pos rfl];refine d4.trans ?_
  congr 1
  refine c4.trans ?_;show da (rz v t r.2.1 r.2.2).1.size 2++(ls (rz v t r.2.1 r.2.2).1++(ls t).drop (rz v t r.2.1 r.2.2).2.1)=_;rw[b4];rfl
theorem Dq{v:Int}{t:ByteArray}(h:(cn1 v t).2.2=0):(cn1 v t).2.1<=t.size/\(∃f k l c,f<256/\k<65536/\tu v f=true/\(cn1 v t).1=xz f k c l)/\ls t=f1 v (cn1 v t).1 ((ls t).drop (cn1 v t).2.1):=by
 have l0:(stN t).1<=t.size:=dy (ag _) _ _;have l1:(cnV v t).1<=t.size:=dy l0 _ _;have l2:(cnF v t).2.1<=t.size:=dy l1 _ _;have l3:(cnK v t).2.1<=t.size:=dy l2 _ _;obtain⟨t1,t2,-,-,t5⟩:=sC (t:=t) (a:=(cnP v t).2.1) (e:=(cnP v t).2.2) h;obtain⟨p1,-,-,-,p5⟩:=yv (v:=v) (k:=1) l3 t1;obtain⟨k1,k2,k3⟩:=i7 (t:=t) (a:=(cnF v t).2.1) (e:=(cnF v t).2.2) (k:=2) p1;have hF:(cnF v t).2.2=0:=k1;unfold cnF stG at hF;simp only at hF
 by_cases hfl:tu v (br t (cnV v t).1 (cnV v t).2 1)=true
 rotate_left
 ·rw[ae hfl]at hF;exact(gW hF (by decide)).elim
 rw[if_pos hfl]at hF;obtain⟨f1',f2',f3'⟩:=i7 (k:=1) hF;have hV:(cnV v t).2=0:=f1';unfold cnV stV at hV;simp only at hV
 by_cases hvv:((br t (stN t).1 (stN t).2 1:Nat):Int)=v
 rotate_left
 ·rw[ae hvv]at hV;exact(gW hV (by decide)).elim
 rw[if_pos hvv]at hV;obtain⟨v1,v2,v3⟩:=i7 (k:=1) hV;have hN:(stN t).2=0:=v1;unfold stN at hN;simp only at hN
 by_cases hnn:(aH t 0 0 6).1=i8
 rotate_left
 ·rw[ae hnn]at hN;exact(gW hN (by decide)).elim
 rw[if_pos hnn]at hN;obtain⟨-,n2,n3⟩:=i7 (k:=6) hN;have e0:stN t=(6,0):=by
  have h6:aH t 0 0 6=(t.extract 0 (0+6),0+6,0):=n3;unfold stN;rw[if_pos hnn,h6]
 have e1:cnV v t=(7,0):=by
  rw[e0]at hvv v2 v3;have h7:aH t 6 0 1=(t.extract 6 (6+1),6+1,0):=v3;unfold cnV stV;rw[e0];simp only at hvv⊢;rw[if_pos hvv,h7]
 have e2:cnF v t=(br t 7 0 1,8,0):=by
  rw[e1]at hfl f2' f3';have h8:aH t 7 0 1=(t.extract 7 (7+1),7+1,0):=f3';unfold cnF stG;rw[e1];simp only at hfl⊢;rw[if_pos hfl,h8]
 have e3:cnK v t=(br t 8 0 2,10,0):=by
  rw[e2]at k2 k3;have h8:aH t 8 0 2=(t.extract 8 (8+2),8+2,0):=k3;unfold cnK stK;rw[e2];simp only;rw[h8]
 rw[e2]at k2;rw[e1]at hfl f2';rw[e0]at hvv v2;simp only at k2 hfl f2' hvv v2;have hfn:br t 7 0 1<256:=iV _ _ _;have hkn:br t 8 0 2<65536:=gU _ _ _ (by omega);have hP:(cn1 v t).1=xz (br t 7 0 1) (br t 8 0 2) (cnT v t).1 (cnP v t).1:=by unfold cn1;rw[e2,e3]
 refine⟨t2,⟨_,_,_,_,hfn,hkn,hfl,hP⟩,?_⟩;have hflN:flN (cn1 v t).1=((br t 7 0 1:Nat):Int):=by
  rw[hP];refine EG ⟨_,hfn⟩ ?_;have hodd:decide (br t 7 0 1% 2=1)=false:=by
   cases hd:decide (br t 7 0 1% 2=1)
   ·rfl
   ·unfold tu at hfl;rw[hd]at hfl;simp at hfl
  have:=Gy hodd;show br t 7 0 1% 2=0;omega
 have d6:ls t=ls i8++(ls t).drop 6:=by
  have h6:aH t 0 0 6=(t.extract 0 (0+6),0+6,0):=n3;rw[h6]at hnn;have:=xU (t:=t) (a:=0) (k:=6) n2;rw[show t.extract 0 (0+6)=i8 from hnn]at this;exact this
 have d7:=lo (t:=t) (a:=6) v2;have d8:=lo (t:=t) (a:=7) f2';have d10:=lY (t:=t) (a:=8) k2;have dP:(ls t).drop 10=gP v 1 (cnP v t).1++(ls t).drop (cnP v t).2.1:=by
  have:=p5;rw[e3]at this;exact this.trans (by show _=gP v 1 (fv v 1 t (cnK v t).2.1 (cnK v t).2.2).1++(ls t).drop (fv v 1 t (cnK v t).2.1 (cnK v t).2.2).2.1;rw[e3])
 unfold f1;rw[hflN,hP];show ls t=ls i8++(da v.toNat 1++(da ((br t 7 0 1:Nat):Int).toNat 1++(da ((br t 8 0 2:Nat):Int).toNat 2++(gP v 1 (cnP v t).1++(da (cnT v t).1.size 2++(ls (cnT v t).1++(ls t).drop (cnT v t).2.1))))));rw[dN,dN,<-show br t 6 0 1=v.toNat from by have:((br t 6 0 1:Nat):Int)=v:=hvv;omega];have t5':(ls t).drop (cnP v t).2.1=da (cnT v t).1.size 2++(ls (cnT v t).1++(ls t).drop (cnT v t).2.1):=t5;rw[<-t5',<-dP,<-d10,<-d8,<-d7];exact d6
theorem Ax{v:Int}{t:ByteArray}(h:(jS v t).2.2=0):(jS v t).2.1<=t.size/\(jS v t).1.kind=1/\ls t=f1 v (jS v t).1 (fW v (jS v t).1 (fU (jS v t).1 (fS (jS v t).1 ((ls t).drop (jS v t).2.1)))):=by
 have o1:(cn1 v t).2.1<=t.size->(cn2 v t (cn1 v t)).2.2=0->(cn2 v t (cn1 v t)).2.1<=t.size:=fun a b=>(vK a b).2.1;have h4:(cn4 t (cn3 t (cn2 v t (cn1 v t)))).2.2=0:=h;have l1:(cn1 v t).2.1<=t.size:=by
  have l0:(stN t).1<=t.size:=dy (ag _) _ _;have l1:(cnV v t).1<=t.size:=dy l0 _ _;have l2:(cnF v t).2.1<=t.size:=dy l1 _ _;have l3:(cnK v t).2.1<=t.size:=dy l2 _ _;exact(nD t _ _ (qe l3)).2
 have l2:(cn2 v t (cn1 v t)).2.1<=t.size:=by
  unfold cn2;split
  ·exact pH _ _ _ (nD t _ _ (qe l1)).2
  ·exact l1
 have l3:(cn3 t (cn2 v t (cn1 v t))).2.1<=t.size:=by
  unfold cn3;split
  ·exact(nD t _ _ l2).2
  ·exact l2
 obtain⟨z3,m4,⟨x4,q4⟩,d4⟩:=Dn l3 h4;obtain⟨z2,m3,⟨x3,q3⟩,d3⟩:=Dp l2 z3;obtain⟨z1,m2,⟨x2,y2,w2,q2⟩,d2⟩:=vK l1 z2;obtain⟨m1,⟨f,k,l,c,hf,hk,hfl,q1⟩,d1⟩:=Dq z1;have hq:(jS v t).1= {(cn1 v t).1 with will:={(cn1 v t).1.will with props:=x2,topic:=y2,payload:=w2},user:=x3,pass:=x4}:=by
  show(cn4 t (cn3 t (cn2 v t (cn1 v t)))).1=_;rw[q4,q3,q2]
 refine⟨m4,?_,?_⟩
 ·rw[hq,q1];rfl
 have e4:fS (cn4 t (cn3 t (cn2 v t (cn1 v t)))).1=fS (jS v t).1:=rfl;have e3:∀R,fU (cn3 t (cn2 v t (cn1 v t))).1 R=fU (jS v t).1 R:=fun R=>by
  rw[hq,q3,q2];rfl
 have e2:∀R,fW v (cn2 v t (cn1 v t)).1 R=fW v (jS v t).1 R:=fun R=>by
  rw[hq,q2];rfl
 have e1:∀R,f1 v (cn1 v t).1 R=f1 v (jS v t).1 R:=fun R=>by
  rw[hq];rfl
 refine d1.trans ?_;rw[e1,d2,e2,d3,e3,d4];rfl
structure CaGood (v:Int) (p:Pk):Prop where
 ver:v=4\/v=5
 kind:p.kind=2
 same:p= {pk0 with kind:=p.kind,props:=p.props,session:=p.session,code:=p.code}
 old:v=4->p.props=[]
 code:0<=p.code/\p.code<256
 props:(aM 2 p.props).2=0
theorem Az{v:Int}{p:Pk}(x:eR v p=0)(h2:p.kind=2):CaGood v p:=by
 obtain⟨g1,-,g3,g4⟩:=nq x;obtain⟨-,-,-,-,c6,-⟩:=mM x;have hv:v=4\/v=5:=aR (show decide (v=4\/v=5)=true from g1);refine⟨hv,h2,by rw[<-qI h2];exact g3,fun h4=>?_,Av x h2,by rw[<-h2];exact c6⟩;unfold dU at g4;split at g4
 ·cases g4
 ·next hp=>
  have:¬0<p.props.length+p.will.props.length:=fun y=>hp ⟨h4,y⟩;exact aF (by omega)
def NS(b:Bool):Nat:=if b=true then 1 else 0
theorem OW(b:Bool):es [(if b=true then(1:UInt8)else 0)]=NS b:=by cases b<;>rfl
theorem Gl(v:Int)(p:Pk)(h:p.kind=2)(R:List UInt8):ls (vP v p)++R=[(if p.session=true then(1:UInt8)else 0)]++(da p.code.toNat 1++(gP v 2 p.props++R)):=by
 unfold vP;rw[h];simp only[lK,nt,jo,pL,List.append_assoc,dX]
theorem MH{v:Int}{p:Pk}(g:CaGood v p)(hn:∀q∈p.props,q.n<4294967296){t:ByteArray}{R:List UInt8}(ht:ls t=ls (vP v p)++R):
  ∃a,lL v t=(p,a,0)/\a<=t.size/\(ls t).drop a=R:=by
 rw[Gl v p g.kind]at ht;have hl:=congrArg List.length ht;rw[aN]at hl;simp only[List.length_append,fM,qU]at hl;have d0:(ls t).drop 0=_:=ht;have d1:=congrArg (List.drop 1) ht;rw[GU (show [(if p.session=true then(1:UInt8)else 0)].length=1 from rfl)]at d1;have d2:=congrArg (List.drop 1) d1;rw[et,GU (fM _ _)]at d2
 replace d2:(ls t).drop 2=_:=d2
 have hF:caF t=(NS p.session,1,0):=by
  have h1:aH t 0 0 1=(t.extract 0 (0+1),0+1,0):=dZ (k:=1) (by omega);have h2:br t 0 0 1=NS p.session:=by rw[show((1:Int))=((1:Nat):Int)from rfl,sc (k:=1) d0 rfl (by omega),OW]
  unfold caF;rw[h1,h2,if_pos (by unfold NS;split<;>omega)]
 have hC:caC t=(p.code.toNat,2,0):=by
  unfold caC;rw[hF];simp only;have h1:aH t 1 0 1=(t.extract 1 (1+1),1+1,0):=dZ (k:=1) (by omega);have h2:br t 1 0 1=p.code.toNat:=by rw[show((1:Int))=((1:Nat):Int)from rfl,sc (k:=1) d1 (fM _ _) (by omega),Jd _ (by have:=g.code;omega)]
  rw[h1,h2]
 obtain⟨hP,hPle,dP⟩:=JG (v:=v) (k:=2) (a:=2) (by omega) g.old g.props hn d2;have hP':caP v t=(p.props,2+(gP v 2 p.props).length,0):=by unfold caP;rw[hC];exact hP
 refine⟨_,?_,hPle,dP⟩;unfold lL;rw[hF,hC,hP']
 congr 1
 have e:=g.same;rw[e];unfold Ds;have hc:((p.code.toNat:Nat):Int)=p.code:=by have:=g.code;omega
 have hs:decide (NS p.session=1)=p.session:=by cases p.session<;>rfl
 simp only;rw[hc,hs,g.kind]
theorem Ay{v:Int}{t:ByteArray}(h:(lL v t).2.2=0):(lL v t).2.1<=t.size/\(lL v t).1.kind=2/\ls t=ls (vP v (lL v t).1)++(ls t).drop (lL v t).2.1:=by
 have l1:(caF t).2.1<=t.size:=dy (ag _) _ _;have l2:(caC t).2.1<=t.size:=dy l1 _ _;obtain⟨p1,p2,-,-,p5⟩:=yv (v:=v) (k:=2) l2 h;obtain⟨c1,c2,c3⟩:=i7 (t:=t) (a:=(caF t).2.1) (e:=(caF t).2.2) (k:=1) p1;have hF:(caF t).2.2=0:=c1;unfold caF at hF;simp only at hF
 by_cases hn:br t 0 0 1<=1
 rotate_left
 ·rw[ae hn]at hF;exact(gW hF (by decide)).elim
 rw[if_pos hn]at hF;obtain⟨-,f2,f3⟩:=i7 (k:=1) hF;have e1:caF t=(br t 0 0 1,1,0):=by
  have h6:aH t 0 0 1=(t.extract 0 (0+1),0+1,0):=f3;unfold caF;rw[if_pos hn,h6]
 have e2:caC t=(br t 1 0 1,2,0):=by
  rw[e1]at c2 c3;have h6:aH t 1 0 1=(t.extract 1 (1+1),1+1,0):=c3;unfold caC;rw[e1];simp only;rw[h6]
 rw[e1]at c2;have d0:=lo (t:=t) (a:=0) (by omega);have d1:=lo (t:=t) (a:=1) c2;have dP:(ls t).drop 2=gP v 2 (caP v t).1++(ls t).drop (caP v t).2.1:=by
  have:=p5;rw[e2]at this;exact this.trans (by show _=gP v 2 (fv v 2 t (caC t).2.1 (caC t).2.2).1++(ls t).drop (fv v 2 t (caC t).2.1 (caC t).2.2).2.1;rw[e2])
 have hq:(lL v t).1=Ds (br t 0 0 1) (br t 1 0 1) (caP v t).1:=by unfold lL;rw[e1,e2]
 refine⟨p2,by rw[hq];rfl,?_⟩;rw[hq,Gl v _ rfl];have hb:da (br t 0 0 1) 1=[(if(Ds (br t 0 0 1) (br t 1 0 1) (caP v t).1).session=true then(1:UInt8)else 0)]:=by
  show _=[(if decide (br t 0 0 1=1)=true then(1:UInt8)else 0)];generalize br t 0 0 1=n at*;have:n=0\/n=1:=by omega
  rcases this with rfl| rfl<;>rfl
 rw[<-hb];show ls t=da (br t 0 0 1) 1++(da ((br t 1 0 1:Nat):Int).toNat 1++(gP v 2 (caP v t).1++(ls t).drop (caP v t).2.1));rw[dN,<-dP,<-d1];exact d0
def rdK(v k:Int)(t:ByteArray):Pk×Nat×Int:=if k=1 then jS v t else lL v t
theorem Dk{v:Int}{p:Pk}(x:eR v p=0):p.kind=1\/p.kind=2:=by
 obtain⟨-,g2,-,-⟩:=nq x;exact aR (show decide (p.kind=1\/p.kind=2)=true from g2)
theorem og{v:Int}{p:Pk}(x:eR v p=0):Dm v p=((if p.kind=2 then vP v p else EY v p),0):=by
 unfold Dm Fg
 by_cases h:p.kind=2
 ·rw[if_pos h,if_pos x,if_pos h]
 ·rw[ae h,if_pos x,ae h]
theorem Nj{v:Int}{p:Pk}(x:eR v p=0)(hn:∀q∈p.props,q.n<4294967296)(hw:∀q∈p.will.props,q.n<4294967296){t:ByteArray}{R:List UInt8}(ht:ls t=ls (Dm v p).1++R):
  ∃a,rdK v p.kind t=(p,a,0)/\a<=t.size/\(ls t).drop a=R:=by
 rw[og x]at ht;unfold rdK;rcases Dk x with h| h
 ·rw[if_pos h];rw[ae (by omega)]at ht;have g:=su x h;exact MG g hn hw (ht.trans (Gk g R))
 ·rw[ae (by omega)];rw[if_pos h]at ht;exact MH (Az x h) hn ht
theorem Bx{v k:Int}(hk:k=1\/k=2){t:ByteArray}(h:(rdK v k t).2.2=0):
  (rdK v k t).2.1<=t.size/\(rdK v k t).1.kind=k/\(eR v (rdK v k t).1=0->ls t=ls (Dm v (rdK v k t).1).1++(ls t).drop (rdK v k t).2.1):=by
 unfold rdK at h⊢;rcases hk with rfl| rfl
 ·rw[if_pos rfl]at h⊢;obtain⟨h1,h2,h3⟩:=Ax h;refine⟨h1,h2,fun x=>?_⟩;rw[og x,ae (by omega)];exact h3.trans (Gk (su x h2) _).symm
 ·rw[ae (by decide)]at h⊢;obtain⟨h1,h2,h3⟩:=Ay h;refine⟨h1,h2,fun x=>?_⟩;rw[og x,if_pos h2];exact h3
theorem E0{v k:Int}{s:ByteArray}(hv:ba v=true)(hk:gm k=true):iB v k s=jT v s (rdK v k s):=by
 unfold iB;rw[ae (fun x=>x.elim (fun y=>by rw[hv]at y;cases y) (fun y=>by rw[hk]at y;cases y))];rfl
theorem oe{v k:Int}{s:ByteArray}:((iB v k s).2≠0/\(iB v k s).1=pk0)\/(ba v=true/\gm k=true/\(rdK v k s).2.2=0/\s.size- (rdK v k s).2.1=0/\eR v (rdK v k s).1=0/\iB v k s=((rdK v k s).1,0)):=by
 cases hv:ba v
 ·left;unfold iB;rw[if_pos (.inl hv)];exact⟨by decide,rfl⟩
 cases hk:gm k
 ·left;unfold iB;rw[if_pos (.inr hk)];exact⟨by decide,rfl⟩
 rw[E0 hv hk];unfold jT
 by_cases h1:oV s (rdK v k s)=0
 ·rw[ae (fun x=>x h1)]
  by_cases h2:eR v (rdK v k s).1=0
  ·rw[ae (fun x=>x h2)]
   right
   unfold oV at h1;split at h1
   ·next hz=>exact⟨rfl,rfl,h1,hz,h2,rfl⟩
   ·exact(gW h1 (by decide)).elim
  ·rw[if_pos h2];exact .inl ⟨h2,rfl⟩
 ·rw[if_pos h1];exact .inl ⟨h1,rfl⟩
theorem MF{v:Int}{p:Pk}(x:eR v p=0)(hn:∀q∈p.props,q.n<4294967296)(hw:∀q∈p.will.props,q.n<4294967296):iB v p.kind (Dm v p).1=(p,0):=by
 obtain⟨a,e,hle,hd⟩:=Nj x hn hw (t:=(Dm v p).1) (R:=[]) (cW _).symm;obtain⟨g1,g2,-,-⟩:=nq x;rw[E0 g1 g2,e];have hz:(Dm v p).1.size- a=0:=by
  have:=congrArg List.length hd;rw[bU,aN]at this;exact this
 unfold jT oV;simp only;rw[if_pos hz,ae (fun y=>y rfl),ae (fun y=>y x)]
theorem Au{v k:Int}{s:ByteArray}{q:Pk}(h:iB v k s=(q,0)):eR v q=0/\Dm v q=(s,0)/\q.kind=k:=by
 rcases oe (v:=v) (k:=k) (s:=s)with ⟨h1,-⟩ | ⟨-,h2,h3,h4,h5,h6⟩
 ·rw[h]at h1;exact absurd rfl h1
 ·have hq:q=(rdK v k s).1:=congrArg Prod.fst (h.symm.trans h6);obtain⟨m1,m2,m3⟩:=Bx (aR (show decide (k=1\/k=2)=true from h2)) h3;rw[hq];refine⟨h5,?_,m2⟩;have hz:=og h5;rw[hz];have:=m3 h5;rw[gF (by rw[aN];omega),cW,hz]at this;exact Prod.ext (eX this).symm rfl
end Go.Proofs.YtbdgkkmbnahgiaaGreatDoor
