/- Library names that are used often, under short names. -/
import Derived.Test.YtafoknnjekegkaaGreatDoorProg
import Derived.WalkKit
import Derived.WalkSpells
import Derived.WalkLawsBesides
import Derived.Lib.Hide
import Derived.Deep.Draws
import Derived.Deep.QuietTactic
import Derived.BigQuiet
import Derived.Maps.AppendAt
import Derived.Deep.AppendLies
import Derived.Lib.AppendStr
import Derived.Maps.Own
import Derived.MapKept
namespace Go.Proofs.YtafoknnjekegkaaGreatDoor
open Go.RowKit
theorem Qr:type_of% @AllReady.nil:=@AllReady.nil
theorem Il.{u0}:type_of% @Array.ext_getElem?.{u0}:=@Array.ext_getElem?.{u0}
theorem Jf.{u0}:type_of% @Array.getD_eq_getD_getElem?.{u0}:=@Array.getD_eq_getD_getElem?.{u0}
theorem eL.{u0}:type_of% @Array.getElem?_eq_getElem.{u0}:=@Array.getElem?_eq_getElem.{u0}
theorem cZ.{u0}:type_of% @Array.getElem?_eq_some_iff.{u0}:=@Array.getElem?_eq_some_iff.{u0}
theorem eK.{u0}:type_of% @Array.getElem?_setIfInBounds_ne.{u0}:=@Array.getElem?_setIfInBounds_ne.{u0}
theorem fT.{u0}:type_of% @Array.length_toList.{u0}:=@Array.length_toList.{u0}
theorem qW.{u0}:type_of% @Array.mem_of_getElem?.{u0}:=@Array.mem_of_getElem?.{u0}
theorem oz.{u0}:type_of% @Array.toList_inj.{u0}:=@Array.toList_inj.{u0}
theorem UC:type_of% @Below.heap_alloc:=@Below.heap_alloc
theorem jz:type_of% @Below.heap_setCell:=@Below.heap_setCell
theorem aq:type_of% @Below.refl:=@Below.refl
theorem Kz:type_of% @Bool.and_eq_false_iff:=@Bool.and_eq_false_iff
theorem eh:type_of% @Bool.and_eq_true:=@Bool.and_eq_true
theorem ru:type_of% @Bool.and_false:=@Bool.and_false
theorem IK:type_of% @Bool.and_true:=@Bool.and_true
theorem Ij:type_of% @Bool.decide_and:=@Bool.decide_and
theorem eG:type_of% @Bool.eq_iff_iff:=@Bool.eq_iff_iff
theorem YH:type_of% @Bool.false_and:=@Bool.false_and
theorem nB:type_of% @Bool.false_or:=@Bool.false_or
theorem Ra:type_of% @Bool.not_true:=@Bool.not_true
theorem aL:type_of% @Bool.true_and:=@Bool.true_and
theorem cK:type_of% @ByteArray.size_append:=@ByteArray.size_append
theorem aj:type_of% @ByteArray.size_extract:=@ByteArray.size_extract
theorem qV:type_of% @ChangeSpec.witness_at:=@ChangeSpec.witness_at
theorem il:type_of% @Classical.not_not:=@Classical.not_not
theorem GN:type_of% @DataW.trod_bool:=@DataW.trod_bool
theorem GB:type_of% @DataW.trod_int:=@DataW.trod_int
theorem GH:type_of% @DataW.trod_string:=@DataW.trod_string
theorem Iy:type_of% @DataW.trod_struct:=@DataW.trod_struct
theorem aU:type_of% @Decidable.not_not:=@Decidable.not_not
theorem JL:type_of% @Int.eq_ofNat_of_zero_le:=@Int.eq_ofNat_of_zero_le
theorem QP:type_of% @Int.tmod_eq_emod_of_nonneg:=@Int.tmod_eq_emod_of_nonneg
theorem dN:type_of% @Int.toNat_natCast:=@Int.toNat_natCast
theorem aQ:type_of% @IntKind.wrap_i64:=@IntKind.wrap_i64
theorem oy:type_of% @IntKind.wrap_u32:=@IntKind.wrap_u32
theorem iZ:type_of% @IntKind.wrap_u64:=@IntKind.wrap_u64
theorem GM:type_of% @IntKind.wrap_u8:=@IntKind.wrap_u8
theorem aa:type_of% @Lib.hid:=@Lib.hid
theorem dL.{u0}:type_of% @List.all_eq_true.{u0}:=@List.all_eq_true.{u0}
theorem YO.{u0}:type_of% @List.append_nil.{u0}:=@List.append_nil.{u0}
theorem gY.{u0}:type_of% @List.cons.injEq.{u0}:=@List.cons.injEq.{u0}
theorem IJ.{u0}:type_of% @List.cons_append.{u0}:=@List.cons_append.{u0}
theorem IE.{u0}:type_of% @List.contains_iff_mem.{u0}:=@List.contains_iff_mem.{u0}
theorem ab2.{u0}:type_of% @List.drop_drop.{u0}:=@List.drop_drop.{u0}
theorem bQ.{u0}:type_of% @List.drop_eq_getElem_cons.{u0}:=@List.drop_eq_getElem_cons.{u0}
theorem gF.{u0}:type_of% @List.drop_eq_nil_of_le.{u0}:=@List.drop_eq_nil_of_le.{u0}
theorem ox.{u0}:type_of% @List.drop_length.{u0}:=@List.drop_length.{u0}
theorem gD.{u0}:type_of% @List.drop_of_length_le.{u0}:=@List.drop_of_length_le.{u0}
theorem ji.{u0}:type_of% @List.drop_succ_cons.{u0}:=@List.drop_succ_cons.{u0}
theorem Yl.{u0}:type_of% @List.drop_zero.{u0}:=@List.drop_zero.{u0}
theorem aF.{u0}:type_of% @List.eq_nil_of_length_eq_zero.{u0}:=@List.eq_nil_of_length_eq_zero.{u0}
theorem dM.{u0}:type_of% @List.ext_getElem?.{u0}:=@List.ext_getElem?.{u0}
theorem fR.{u0,u1}:type_of% @List.flatMap_append.{u0,u1}:=@List.flatMap_append.{u0,u1}
theorem YS.{u0,u1}:type_of% @List.flatMap_cons.{u0,u1}:=@List.flatMap_cons.{u0,u1}
theorem jq.{u0,u1}:type_of% @List.foldl_cons.{u0,u1}:=@List.foldl_cons.{u0,u1}
theorem jd.{u0}:type_of% @List.getElem?_append_left.{u0}:=@List.getElem?_append_left.{u0}
theorem iM.{u0}:type_of% @List.getElem?_append_right.{u0}:=@List.getElem?_append_right.{u0}
theorem aE:type_of% @List.getElem?_cons_succ:=@List.getElem?_cons_succ
theorem aB.{u0}:type_of% @List.getElem?_cons_zero.{u0}:=@List.getElem?_cons_zero.{u0}
theorem aG.{u0}:type_of% @List.getElem?_eq_none.{u0}:=@List.getElem?_eq_none.{u0}
theorem YI.{u0}:type_of% @List.getElem?_eq_some_iff.{u0}:=@List.getElem?_eq_some_iff.{u0}
theorem Zr.{u0,u1}:type_of% @List.getElem?_map.{u0,u1}:=@List.getElem?_map.{u0,u1}
theorem ay.{u0}:type_of% @List.getElem?_toArray.{u0}:=@List.getElem?_toArray.{u0}
theorem iY.{u0}:type_of% @List.getElem_mem.{u0}:=@List.getElem_mem.{u0}
theorem bM.{u0}:type_of% @List.length_cons.{u0}:=@List.length_cons.{u0}
theorem bU.{u0}:type_of% @List.length_drop.{u0}:=@List.length_drop.{u0}
theorem WJ.{u0}:type_of% @List.length_filter_le.{u0}:=@List.length_filter_le.{u0}
theorem eD.{u0,u1}:type_of% @List.length_map.{u0,u1}:=@List.length_map.{u0,u1}
theorem eC.{u0}:type_of% @List.length_nil.{u0}:=@List.length_nil.{u0}
theorem qU.{u0}:type_of% @List.length_singleton.{u0}:=@List.length_singleton.{u0}
theorem cY.{u0}:type_of% @List.length_take.{u0}:=@List.length_take.{u0}
theorem Ii.{u0,u1}:type_of% @List.map_append.{u0,u1}:=@List.map_append.{u0,u1}
theorem fI.{u0,u1}:type_of% @List.map_cons.{u0,u1}:=@List.map_cons.{u0,u1}
theorem gC.{u0,u1}:type_of% @List.map_nil.{u0,u1}:=@List.map_nil.{u0,u1}
theorem kD.{u0,u1}:type_of% @List.map_toArray.{u0,u1}:=@List.map_toArray.{u0,u1}
theorem cj.{u0}:type_of% @List.mem_append.{u0}:=@List.mem_append.{u0}
theorem ie.{u0}:type_of% @List.mem_cons.{u0}:=@List.mem_cons.{u0}
theorem kV.{u0}:type_of% @List.mem_cons_of_mem.{u0}:=@List.mem_cons_of_mem.{u0}
theorem WV.{u0}:type_of% @List.mem_filter.{u0}:=@List.mem_filter.{u0}
theorem ou.{u0,u1}:type_of% @List.mem_flatMap.{u0,u1}:=@List.mem_flatMap.{u0,u1}
theorem jX.{u0,u1}:type_of% @List.mem_map.{u0,u1}:=@List.mem_map.{u0,u1}
theorem r8.{u0,u1}:type_of% @List.mem_map_of_mem.{u0,u1}:=@List.mem_map_of_mem.{u0,u1}
theorem jc.{u0}:type_of% @List.mem_of_find?_eq_some.{u0}:=@List.mem_of_find?_eq_some.{u0}
theorem iL.{u0}:type_of% @List.mem_of_getElem?.{u0}:=@List.mem_of_getElem?.{u0}
theorem IU.{u0}:type_of% @List.mem_of_mem_take.{u0}:=@List.mem_of_mem_take.{u0}
theorem gn:type_of% @List.mem_range:=@List.mem_range
theorem gA.{u0}:type_of% @List.mem_singleton.{u0}:=@List.mem_singleton.{u0}
theorem dX.{u0}:type_of% @List.nil_append.{u0}:=@List.nil_append.{u0}
theorem af.{u0}:type_of% @List.setIfInBounds_toArray.{u0}:=@List.setIfInBounds_toArray.{u0}
theorem am.{u0}:type_of% @List.set_cons_succ.{u0}:=@List.set_cons_succ.{u0}
theorem ak.{u0}:type_of% @List.set_cons_zero.{u0}:=@List.set_cons_zero.{u0}
theorem WO.{u0}:type_of% @List.size_toArray.{u0}:=@List.size_toArray.{u0}
theorem SK.{u0}:type_of% @List.sum_cons.{u0}:=@List.sum_cons.{u0}
theorem Ur.{u0}:type_of% @List.sum_nil.{u0}:=@List.sum_nil.{u0}
theorem ot.{u0}:type_of% @List.take_append.{u0}:=@List.take_append.{u0}
theorem cg.{u0}:type_of% @List.take_append_drop.{u0}:=@List.take_append_drop.{u0}
theorem eW.{u0}:type_of% @List.take_append_of_le_length.{u0}:=@List.take_append_of_le_length.{u0}
theorem GK.{u0}:type_of% @List.take_length.{u0}:=@List.take_length.{u0}
theorem bt.{u0}:type_of% @List.take_of_length_le.{u0}:=@List.take_of_length_le.{u0}
theorem GG.{u0}:type_of% @List.take_succ_cons.{u0}:=@List.take_succ_cons.{u0}
theorem fE.{u0}:type_of% @List.take_succ_eq_append_getElem.{u0}:=@List.take_succ_eq_append_getElem.{u0}
theorem GZ.{u0}:type_of% @List.take_zero.{u0}:=@List.take_zero.{u0}
theorem jW:type_of% @MapKept.run_getObj_map:=@MapKept.run_getObj_map
theorem iK:type_of% @Nat.add_mul:=@Nat.add_mul
theorem jV:type_of% @Nat.add_zero:=@Nat.add_zero
theorem kC:type_of% @Nat.and_two_pow_sub_one_eq_mod:=@Nat.and_two_pow_sub_one_eq_mod
theorem iJ:type_of% @Nat.div_lt_of_lt_mul:=@Nat.div_lt_of_lt_mul
theorem dh:type_of% @Nat.eq_zero_or_pos:=@Nat.eq_zero_or_pos
theorem iX:type_of% @Nat.le_add_right:=@Nat.le_add_right
theorem pf:type_of% @Nat.le_of_lt:=@Nat.le_of_lt
theorem ac:type_of% @Nat.le_refl:=@Nat.le_refl
theorem IT:type_of% @Nat.le_succ:=@Nat.le_succ
theorem aC:type_of% @Nat.le_trans:=@Nat.le_trans
theorem WQ:type_of% @Nat.lt_irrefl:=@Nat.lt_irrefl
theorem YU:type_of% @Nat.lt_of_lt_of_le:=@Nat.lt_of_lt_of_le
theorem fj:type_of% @Nat.lt_or_ge:=@Nat.lt_or_ge
theorem dx:type_of% @Nat.lt_succ_iff_lt_or_eq:=@Nat.lt_succ_iff_lt_or_eq
theorem ed:type_of% @Nat.lt_succ_self:=@Nat.lt_succ_self
theorem iI:type_of% @Nat.mod_lt:=@Nat.mod_lt
theorem eV:type_of% @Nat.mul_comm:=@Nat.mul_comm
theorem iH:type_of% @Nat.mul_le_mul_right:=@Nat.mul_le_mul_right
theorem Y8:type_of% @Nat.mul_one:=@Nat.mul_one
theorem df:type_of% @Nat.pow_le_pow_right:=@Nat.pow_le_pow_right
theorem bV:type_of% @Nat.zero_add:=@Nat.zero_add
theorem ag:type_of% @Nat.zero_le:=@Nat.zero_le
theorem jU:type_of% @Nat.zero_mul:=@Nat.zero_mul
theorem fc:type_of% @Obj.cells.injEq:=@Obj.cells.injEq
theorem kB.{u0}:type_of% @Option.getD_some.{u0}:=@Option.getD_some.{u0}
theorem mh.{u0}:type_of% @Option.isSome_some.{u0}:=@Option.isSome_some.{u0}
theorem aX.{u0}:type_of% @Option.some.injEq.{u0}:=@Option.some.injEq.{u0}
theorem bG.{u0,u1}:type_of% @Prod.mk.injEq.{u0,u1}:=@Prod.mk.injEq.{u0,u1}
theorem ik:type_of% @Result.andThen_ok:=@Result.andThen_ok
theorem eY:type_of% @World.block_lt_of_cell?:=@World.block_lt_of_cell?
theorem fD:type_of% @World.cell?_alloc_lt:=@World.cell?_alloc_lt
theorem iG:type_of% @World.cell?_of_block:=@World.cell?_of_block
theorem jy:type_of% @World.grownBy.refl:=@World.grownBy.refl
theorem jh:type_of% @World.ownsRow.alloc:=@World.ownsRow.alloc
theorem dD:type_of% @World.ownsRow_nil:=@World.ownsRow_nil
theorem Hj:type_of% @and_true:=@and_true
theorem ar.{u0}:type_of% @beq_eq_false_iff_ne.{u0}:=@beq_eq_false_iff_ne.{u0}
theorem aK.{u0}:type_of% @beq_iff_eq.{u0}:=@beq_iff_eq.{u0}
theorem aA.{u0}:type_of% @bne_iff_ne.{u0}:=@bne_iff_ne.{u0}
theorem QX.{u0}:type_of% @bne_self_eq_false.{u0}:=@bne_self_eq_false.{u0}
theorem abZ:type_of% @bodyPost_ret:=@bodyPost_ret
theorem qf:type_of% @decide_eq_decide:=@decide_eq_decide
theorem ah:type_of% @decide_eq_false:=@decide_eq_false
theorem Ip:type_of% @decide_eq_false_iff_not:=@decide_eq_false_iff_not
theorem au:type_of% @decide_eq_true:=@decide_eq_true
theorem Fx:type_of% @decide_eq_true_eq:=@decide_eq_true_eq
theorem cH:type_of% @decide_eq_true_iff:=@decide_eq_true_iff
theorem me:type_of% @heap_alloc_new:=@heap_alloc_new
theorem Fl.{u0}:type_of% @if_neg.{u0}:=@if_neg.{u0}
theorem o8:type_of% @info_parts:=@info_parts
theorem Gy:type_of% @of_decide_eq_false:=@of_decide_eq_false
theorem aR:type_of% @of_decide_eq_true:=@of_decide_eq_true
theorem Uz:type_of% @ownsRow_setCell_below:=@ownsRow_setCell_below
theorem kK:type_of% @returnsInHanded_of_change_and:=@returnsInHanded_of_change_and
theorem GD:type_of% @rounds_succ:=@rounds_succ
theorem QB:type_of% @wpAny_done:=@wpAny_done
theorem Qt:type_of% @wpAny_ready:=@wpAny_ready
theorem Qw:type_of% @wpAny_take:=@wpAny_take
theorem Y6:type_of% @wpList_plain:=@wpList_plain
theorem kE:type_of% @wpQuiet_nil:=@wpQuiet_nil
theorem _root_.Go.RowKit.Hid.o {p:Prop} (h:Hid p):p:=h
abbrev abO:=ByteArray
abbrev abP:=World
abbrev abQ(w x:World):Prop:=Below w.heap.size w x
abbrev abR(f:FuncId)(a:Array Value)(w:World)(v:Value):Prop:=Calls Tryz.prog f a w λe x=>e= .returned v/\Below w.heap.size w x
abbrev abT(f:FuncId)(a:Array Value)(w:World)(v:Value):Prop:=Calls Tryz.prog f a w λe x=>e= .returned v/\w=x
