/- What the proof of the statement leans on (part 20). -/
import Derived.WideLaws
import Derived.WideMake
import Derived.Test.YtfegacfjgjaghaaGreatDoorQs

namespace Go.Lw
open Go.RowKit
section
variable {α β:Type}{t kt et:TypeId}{m:Nat}
section
variable {P:Program}{ρ:Env}{h:Heap}{dst:Option Nat}{ty:TypeId}{pos:String}{after:Array Edge}{guard:Option (Nat×Bool)}{X:List PanicEntry→Heap→Prop}
theorem OpX.makeMap {α β:Type}{ek:α→Value}{ev:β→Value}{t:TypeId} :
 OpX P ⟨dst,.makeMap t none,ty,pos,after,guard⟩ ρ h (fun u g=>u= .map (some h.size)∧MapH ek ev g h.size []∧Ext0 h g∧g.size=h.size+1) X:=by
 refine(OpX.ofRun (v:=.map (some h.size)) (h':=h.push (.map #[] 0)) fun n B a w hf ha=>⟨w.alloc (.map #[] 0),?_,?_⟩).mono (fun u g k=>?_) (fun _ _ k=>k)
 · simp[execOp,run_makeMap_plain,ha.heap]
 · have:=ha.heap;refine⟨by simp[World.alloc,ha.heap],ha.os,ha.tape,ha.output⟩
 · obtain⟨rfl,rfl⟩:=k;exact⟨rfl,⟨#[],0,by simp,by simp⟩,Ext.push _ _ _,by simp⟩
theorem run_update_new {kd:TypeDesc}[DecidableEq α]{ek:α→Value}{ev:β→Value}(K:KeyE kd ek){k:α}{v:β}{l:List (α×β)}{w:World}(ht:P.underlying t=some (.map kt et)) (hk:P.underlying kt=some kd)
 (hm:MapH ek ev w.heap m l) (hn:asc k l=none):∃o,(Instr.mapUpdate t (.map (some m)) (ek k) (ev v)).run P w= .ok () { w with heap:=w.heap.setIfInBounds m o }∧MapH ek ev (w.heap.setIfInBounds m o) m (l++[(k,v)]):=by
 obtain⟨es,c,h1,h2⟩:=hm;obtain⟨j,hj⟩:=findNow_asc (ev:=ev) K k es.toList l 0 h2;rw[hn] at hj
 have hfind:(Instr.findKey kt (ek k) es.toList).run P w= .ok none w:=by
  unfold Instr.findKey;rw[Sem.run_bind,run_underlying hk w];simp[hj]
 refine⟨.map (es.push { key:=ek k,val:=ev v,born:=c }) (c+1),?_,⟨_,_,by
  have hlt:=(Array.getElem?_eq_some_iff.1 h1).1;rw[Array.getElem?_setIfInBounds,if_pos rfl,if_pos hlt],by simp[h2]⟩⟩
 unfold Instr.mapUpdate;simp only[Sem.run_bind,run_underlying ht w,Result.andThen_ok,MapKept.run_getObj_map h1,K.plain P w kt _ 9999 k hk,hfind,MapKept.run_setObj_map _ h1]
theorem setIn_ext (h:Heap) (m:Nat) (o:Obj):Ext (fun b=>b=m) h (h.setIfInBounds m o)∧(h.setIfInBounds m o).size=h.size :=
 ⟨⟨by simp,fun b _ hb=>by rw[Array.getElem?_setIfInBounds,if_neg (fun e=>hb e.symm)]⟩,by simp⟩
theorem exec_update_new {kd:TypeDesc}[DecidableEq α]{ek:α→Value}{ev:β→Value}(K:KeyE kd ek){k:α}{v:β}{l:List (α×β)}{x y z:Operand}{u u2:Value}{o:Oper}(ho:o.op= .mapUpdate t x y z∨o.op= .insert t x y z) (ht:P.underlying t=some (.map kt et)) (hk:P.underlying kt=some kd)
 (hx:opd ρ x=some (.map (some m))) (hy:opd ρ y=some u) (hu:u=ek k) (hz:opd ρ z=some u2) (hu2:u2=ev v) (hm:MapH ek ev h m l) (hn:asc k l=none) :
 OpX P o ρ h (fun r g=>r=undef∧MapH ek ev g m (l++[(k,v)])∧Ext (fun b=>b=m) h g∧g.size=h.size) X:=by
 subst hu hu2;intro n B a w hf ha next Q hnx _
 obtain⟨ob,hr,hm'⟩:=run_update_new (P:=P) (w:=w) (v:=v) K ht hk (by rw[ha.heap];exact hm) hn;unfold Oper.wp
 have hex:(execOp a.eval o).run P w= .ok .skip { w with heap:=w.heap.setIfInBounds m ob }:=by
  rcases ho with ho|ho<;>simp[execOp,ho,hf.eval hx,hf.eval hy,hf.eval hz,hr]
 rw[hex];have hs:=setIn_ext w.heap m ob;rw[ha.heap] at hs;refine hnx undef _ _ (ha.base ⟨rfl,rfl,rfl,rfl⟩) ⟨rfl,hm',?_,?_⟩
 · rw[ha.heap];exact hs.1
 · rw[ha.heap];exact hs.2
theorem OpX.mapUpdate {kd:TypeDesc}{α β:Type}[DecidableEq α]{ek:α→Value}{ev:β→Value}(K:KeyE kd ek){t kt et:TypeId}{k:α}{v:β}{m:Nat}{l:List (α×β)}{x y z:Operand}{u u2:Value}(ht:P.underlying t=some (.map kt et)) (hk:P.underlying kt=some kd)
 (hx:opd ρ x=some (.map (some m))) (hy:opd ρ y=some u) (hu:u=ek k) (hz:opd ρ z=some u2) (hu2:u2=ev v) (hm:MapH ek ev h m l) (hn:asc k l=none) :
 OpX P ⟨dst,.mapUpdate t x y z,ty,pos,after,guard⟩ ρ h (fun r g=>r=undef∧MapH ek ev g m (l++[(k,v)])∧Ext (fun b=>b=m) h g∧g.size=h.size) X:=exec_update_new K (.inl rfl) ht hk hx hy hu hz hu2 hm hn
theorem OpX.insert {kd:TypeDesc}{α β:Type}[DecidableEq α]{ek:α→Value}{ev:β→Value}(K:KeyE kd ek){t kt et:TypeId}{k:α}{v:β}{m:Nat}{l:List (α×β)}{x y z:Operand}{u u2:Value}(ht:P.underlying t=some (.map kt et)) (hk:P.underlying kt=some kd)
 (hx:opd ρ x=some (.map (some m))) (hy:opd ρ y=some u) (hu:u=ek k) (hz:opd ρ z=some u2) (hu2:u2=ev v) (hm:MapH ek ev h m l) (hn:asc k l=none) :
 OpX P ⟨dst,.insert t x y z,ty,pos,after,guard⟩ ρ h (fun r g=>r=undef∧MapH ek ev g m (l++[(k,v)])∧Ext (fun b=>b=m) h g∧g.size=h.size) X:=exec_update_new K (.inr rfl) ht hk hx hy hu hz hu2 hm hn
theorem OpP.lenMap {ek:α→Value}{ev:β→Value}{x:Operand}{l:List (α×β)}(ht:P.underlying t=some (.map kt et)) (hx:opd ρ x=some (.map (some m))) (hm:MapH ek ev h m l) :
 OpP P ⟨dst,.call ⟨.builtin .len,#[x],#[t]⟩,ty,pos,after,guard⟩ ρ h (.int .i64 (l.length:Nat)):=by
 intro n B a w hf ha;obtain⟨es,c,h1,h2⟩:=hm
 have hl:es.size=l.length:=by
  have:=congrArg List.length h2;simpa using this
 have ht':P.underlying t=some (.map (P.mapKeyOf t) (P.mapElemOf t)):=by simp[Program.mapKeyOf,Program.mapElemOf,ht]
 have:=run_len_map (P:=P) (w:=w) t ty m es c ht' (by rw[ha.heap];exact h1);rw[hl] at this;simp[execOp,resolve,invoke,builtin,hf.eval hx,this,goInt]
end
end
end Go.Lw
namespace Go.Proofs.YtfegacfjgjaghaaGreatDoor
open Go Go.Lw
set_option maxRecDepth 20000
section
variable {h:Heap}
def Tens (h:Heap):Prop:=varAt Tryz.prog h "internal/strconv.uint64pow10" =some (Lib.pow10Tab.map fun z=>Value.int .u64 z).toArray
theorem Tens.ext0 {h':Heap}(k:Tens h) (e:Ext0 h h'):Tens h':=varAt_ext0 e k
theorem itoa_calls (hg:Tens h) (n:Int) (hn : -9223372036854775808≤n∧n≤9223372036854775807) :
 CallsH Tryz.prog 67 #[.int .i64 n] h (Ret fun r h'=>r= .string (bs (Lib.itoa n))∧Ext0 h h'):=by
 refine CallsH.ofBelow fun w hw=>?_
 subst hw;refine(Tryz.strconv_Itoa n hn.1 hn.2 w hg).mono ?_;rintro e w' ⟨rfl,k,os,rfl⟩;refine⟨_,rfl,⟨rfl,?_⟩,rfl,rfl,rfl⟩;refine⟨by simp[Go.Sort.grow],fun b hb _=>?_⟩;simp[Go.Sort.grow,Array.getElem?_append_left hb]
theorem writeByte_calls {b:Nat}{l:List UInt8}(c:UInt8) (hb:BldH h b 134 5 l) (hl:l.length≤900000000) :
 CallsH Tryz.prog 68 #[.pointer (some ⟨b,0,none⟩),.int .u8 (c.toNat:Nat)] h (Ret fun _ h'=>BldH h' b 134 5 (l++[c])∧Ext (fun g=>b≤g) h h'):=by
 obtain⟨p,v,hk,hp,hv⟩:=hb;have hlt:=hk.lt;refine CallsH.of Tryz.func68 rfl rfl ?_;refine xrd Tryz.func68 1 [0,1,4] rfl ?_;refine xra Tryz.func68 1 rfl ?_;refine xo rfl (OpX.call (vs:=[_]) Tryz.func89 rfl H.nm89 rfl (CallsH.toX (copyCheck_calls hk hp))) ?_;rintro _ h1 ⟨hk1,hx1,hs1⟩;refine xd [0,1,4] rfl ?_;refine xra Tryz.func68 3 rfl ?_;refine xp rfl (OpP.fieldAddr (off:=1) Tryz.underlying134 rfl rfl H.sz33 rfl) ?_;have hv1:OwB h1 (b+1) 5 v l:=OwnH.ext hx1 hv (fun g hg=>by have:=own_ne hv g hg.symm;omega);refine xp rfl (OpP.load H.ag33 rfl (hk1.cell (i:=1) rfl)) ?_;refine xqm 1 rfl ?_;refine xo rfl (OpX.buildOnes (us:=[_]) Tryz.underlying33 H.el5 rfl rfl (by decide) (by simp[Value.oneCell'])) ?_;rintro _ _ ⟨rfl,rfl⟩;refine xo rfl (OpX.appendNew Tryz.underlying33 H.el5 rfl rfl (hv1) rfl rfl (by first|decide|simp[Value.oneCell']) (by omega) (by decide) (by omega)) ?_;rintro v2 h2 ⟨ho2,hx2,hx2',hv2⟩;have hk2:=hk1.ext hx2 (fun hm=>by have:=own_ne hv1 b hm;omega);have ho2':OwB h2 (b+1) 5 v2 (l++[c]):=OwE.of (ys:=[c]) ho2 rfl rfl rfl;obtain⟨oa2,c2,rfl,-⟩:=ho2.open;refine xqp 1 rfl rfl (OpP.fieldAddr (off:=1) Tryz.underlying134 rfl rfl H.sz33 rfl) ?_;refine RW.op0 rfl rfl rfl (OpX.storeOne H.sz33 rfl rfl hk2 (by first|decide|exact of_decide_eq_true rfl|(simp;done)|(simp;omega)) rfl) ?_;rintro _ h3 ⟨rfl,hk3,hx3,hs3⟩;refine xd [0,1,4] rfl ?_;refine xrd Tryz.func68 1 [0,1,4] rfl ?_;refine G.ret Tryz.func68 rfl rfl ?_;exact⟨_,rfl,⟨_,_,hk3,.inr rfl,OwnH.ext hx3 ho2' (fun g hg=>by have:=own_ne ho2' g hg.symm;omega)⟩,((hx1.mono (fun _ _ k=>by show b≤_;omega)).trans (hx2.mono (fun g _ k=>by have:=own_ne hv1 g k;show b≤g;omega))).trans (hx3.mono (fun _ _ k=>by show b≤_;omega))⟩
theorem key_calls {O:Nat→Prop}(hg:Tens h){v:Value}{l:List Int}(hv:SlR (.int .i64) h O v l) (hl:l.length≤1000000) (hb:∀n∈l,-9223372036854775808≤n∧n≤9223372036854775807) :
 CallsH Tryz.prog 38 #[v] h (Ret fun r h'=>r= .string (bs (keyP l))∧Ext0 h h'):=by
 obtain⟨oa,n,c,rfl,hsl⟩:=hv.open;have hn:=hsl.len;refine CallsH.of Tryz.func38 rfl rfl ?_;refine xrd Tryz.func38 1 [0,2] rfl ?_;refine xr Tryz.func38 rfl ?_;refine xo rfl (OpX.allocN H.zr134) ?_;rintro _ h0 ⟨rfl,hk0,he0,hs0⟩;refine xd [0,2,3] rfl ?_;refine G.seq rfl ?_;refine xra Tryz.func38 1 rfl ?_;refine xp rfl (OpP.lenSlice Tryz.underlying76 rfl) ?_;refine xqd 1 [0,2,3,6,7,8] rfl ?_;refine G.block rfl rfl ?_;have hb0:BldH h0 h.size 134 5 []:=BldH.fresh hk0;refine G.loop (σ:=Nat) (fun i=>[(3,.pointer (some ⟨h.size,0,none⟩)),(6,.slice oa n c),(7,.int .i64 (n:Nat)),(8,.int .i64 (i:Nat))]) (fun i h'=>i≤n∧Ext0 h h'∧BldH h' h.size 134 5 (keyP (l.take i))∧h0.size≤h'.size) (fun i=>n-i) (0) rfl ⟨rfl,rfl,rfl,rfl,trivial⟩ ⟨Nat.zero_le _,he0,hb0,Nat.le_refl _⟩ ?_;rintro i g ⟨hi,eg,hbg,hgz⟩ ih;have hlen:=key_len (l.take i) (fun x hx=>hb x (List.mem_of_mem_take hx));rw[List.length_take] at hlen;refine xrd Tryz.func38 1 [3,6,7,8,9] rfl ?_;refine G.seq rfl ?_;refine G.ite rfl rfl (fun hlt=>?_) (fun hlt=>?_)
 · obtain⟨b1,o1,x,hoa,_,hx,hcx⟩:=(hsl.mv (Mv.ext0 eg)).at (show i<n by omega);have hbx:=hb x (List.mem_of_getElem? hx);have hil:=Lib.itoa_length_le x hbx.1 hbx.2;have hbsz:=bs_size (Lib.itoa x);have hbl:(bs (Lib.itoa x)).data.toList=Lib.itoa x:=by simp[bs]
   have hnx:keyP (l.take (i+1))=keyP (l.take i)++(bs (Lib.itoa x)).data.toList++[32]:=by rw[List.take_add_one,hx,Option.toList_some,key_snoc,hbl]
   refine G.skip rfl ?_;refine G.seq rfl ?_;refine G.block rfl rfl ?_;refine xr Tryz.func38 rfl ?_;refine xp rfl (OpP.indexSlice Tryz.underlying76 H.sz3 rfl rfl i rfl hoa (by omega)) ?_;refine xp rfl (OpP.load H.ag3 rfl hcx) ?_;refine xqd 1 [3,5,6,7,8,9] rfl ?_;refine xra Tryz.func38 1 rfl ?_;refine xo rfl (OpX.call (vs:=[_]) Tryz.func67 rfl H.nm67 rfl (CallsH.toX (itoa_calls (hg.ext0 eg) x hbx))) ?_;rintro _ g1 ⟨rfl,e1⟩;refine xo rfl (OpX.call (vs:=[_,_]) Tryz.func66 rfl H.nm66 rfl (CallsH.toX (writeString_calls (bs (Lib.itoa x)) (BldH.ext0 hbg e1) (by omega)))) ?_;rintro _ g2 ⟨rfl,hb2,hx2⟩;refine xd [3,5,6,7,8,9] rfl ?_;refine G.reg Tryz.func38 rfl ?_;refine xo rfl (OpX.call (vs:=[_,_]) Tryz.func68 rfl H.nm68 rfl (CallsH.toX (writeByte_calls 32 hb2 (by rw[List.length_append,hbl];omega)))) ?_;rintro _ g3 ⟨hb3,hx3⟩;refine xd [3,5,6,7,8,9] rfl ?_;refine G.blkEnd ?_;refine G.reg Tryz.func38 rfl ?_;refine xp rfl (OpP.add64 rfl rfl ⟨by omega,by omega⟩) ?_;refine xqd 1 [3,5,6,7,8,9] rfl ?_;have z1:=e1.size;have z2:=hx2.size;have z3:=hx3.size;rw[←hnx] at hb3
   have e3:Ext0 h g3:=⟨by have:=eg.size;omega,fun b hb k=>by
    rw[hx3.block b (by have:=eg.size;omega) (by show ¬_≤_;omega),hx2.block b (by have:=eg.size;omega) (by show ¬_≤_;omega),e1.block b (by have:=eg.size;omega) (fun k=>k)];exact eg.block b hb k⟩
   exact ih (i+1) _ _ ⟨rfl,rfl,rfl,rfl,trivial⟩ ⟨by omega,e3,hb3,by omega⟩ (by omega)
 · have hie:l.take i=l:=List.take_of_length_le (by omega);rw[hie] at hbg;have hkl:=key_len l hb;refine G.exit rfl rfl ?_;refine xr Tryz.func38 rfl ?_;refine xo rfl (OpX.call (vs:=[_]) Tryz.func69 rfl H.nm69 rfl (CallsH.toX (bString_calls hbg (by omega)))) ?_;rintro _ g1 ⟨rfl,hx1⟩;refine xqd 1 [2,3,6,7,8,9] rfl ?_;refine G.ret Tryz.func38 rfl rfl ?_;exact⟨_,rfl,rfl,⟨by have:=hx1.size;have:=eg.size;omega,fun b hb k=>by rw[hx1.block b (by have:=eg.size;omega) (by show ¬_≤_;omega)];exact eg.block b hb k⟩⟩
end
end Go.Proofs.YtfegacfjgjaghaaGreatDoor
namespace Go.Proofs.YtfegacfjgjaghaaGreatDoor
open Go
structure Row where
 v:List Int
 len:v.length=256
structure Tab where
 next:List Row
 rule:List Int
def Tab.to (d:Tab) (s:Nat) (c:UInt8):Int:=match d.next[s]? with|some r=>r.v.getD c.toNat (-1)|none=> -1
def Tab.ru (d:Tab) (s:Nat):Int:=d.rule.getD s (-1)
structure Tab.Ok (d:Tab):Prop where
 len:d.rule.length=d.next.length
 size:d.next.length≤2000
 to:∀r∈d.next,∀x∈r.v,-1≤x∧x<d.next.length
 ru:∀x∈d.rule,-1≤x∧x≤1000000
theorem Row.at {r:Row}(c:UInt8):∃x,r.v[c.toNat]? =some x∧r.v.getD c.toNat (-1)=x∧x∈r.v:=by
 have h:=r.len;have hc:=c.toNat_lt;have hx:r.v[c.toNat]? =some (r.v[c.toNat]'(by omega)):=List.getElem?_eq_getElem (by omega);exact⟨_,hx,by rw[List.getD_eq_getElem?_getD,hx];rfl,List.getElem_mem _⟩
theorem Tab.to_lt {d:Tab}(k:d.Ok){s:Nat}(c:UInt8) : -1≤d.to s c∧d.to s c<d.next.length:=by
 unfold Tab.to;cases h:d.next[s]? with
 |none=>simp only;omega
 |some r =>
  obtain⟨x,hx,he,hm⟩:=r.at c;simp only;rw[he];exact k.to r (List.mem_of_getElem? h) x hm
def dmatchG (d:Tab):By→Nat→Nat→Int×Int→Int×Int×Int
 | [],st,k,b=>if 0≤d.ru st then (k,d.ru st,k) else (b.1,b.2,k)
 |c::l,st,k,b =>
  if 0≤d.to st c then dmatchG d l (d.to st c).toNat (k+1) (if 0≤d.ru st then (k,d.ru st) else b)
  else if 0≤d.ru st then (k,d.ru st,k) else (b.1,b.2,k)
def dmatchA (d:Tab) (s:By) (a:Int):Int×Int×Int:=if d.next.length=0∨a<0∨(s.length:Int)<a then (0,-1,0) else dmatchG d (s.drop a.toNat) 0 0 (0,-1)
end Go.Proofs.YtfegacfjgjaghaaGreatDoor
namespace Go.Proofs.YtfegacfjgjaghaaGreatDoor
open Go Go.Lw
set_option maxRecDepth 20000
section
variable {h:Heap}
def encRow (r:Row):List Value:=r.v.map (.int .i64)
@[simp] theorem encRow_len (r:Row):(encRow r).length=256:=by simp[encRow,r.len]
def eRowD:Elt Row:=.record 256 (by decide) encRow encRow_len (fun r v hv=>by simp[encRow] at hv;obtain⟨_,_,rfl⟩:=hv;rfl)
def TabRd (h:Heap) (db:Nat) (d:Tab):Prop :=
 ∃vn vr,Blk h db 98 [vn,vr]∧SlR eRowD h (fun _=>False) vn d.next∧SlR (.int .i64) h (fun _=>False) vr d.rule
theorem TabRd.ext0 {h h':Heap}{db:Nat}{d:Tab}(k:TabRd h db d) (e:Ext0 h h'):TabRd h' db d:=by
 obtain⟨vn,vr,h1,h2,h3⟩:=k;exact⟨vn,vr,h1.ext0 e,h2.mv (Mv.ext0 e),h3.mv (Mv.ext0 e)⟩
def TabAt (h:Heap) (p:Value) (d:Tab):Prop:=(p= .pointer none∧d=⟨[],[]⟩)∨∃db,p= .pointer (some ⟨db,0,none⟩)∧TabRd h db d
theorem dnone_nil:CallsH Tryz.prog 41 #[.pointer none] h (Ret fun r h'=>r= .bool true∧h'=h):=by
 refine CallsH.of Tryz.func41 rfl rfl ?_;refine xrd Tryz.func41 1 [0,2] rfl ?_;refine G.seq rfl ?_;refine G.regTo1 [(2,.bool true)] [(0,_)] ⟨rfl,trivial⟩ Tryz.func41 rfl ?_ ?_
 · refine xqp 1 rfl rfl (OpP.eqlNil Tryz.underlying58 rfl rfl) ?_;refine xqm 1 rfl ?_;refine RW.know (d:=5) (b':=true) rfl (rfl) ?_;refine xqm 8 rfl ?_;refine RW.done rfl ?_;exact⟨rfl,at_bool rfl (rfl),rfl,trivial⟩
 · refine G.ret Tryz.func41 rfl rfl ?_;exact⟨_,rfl,rfl,rfl⟩
theorem dnone_at {db:Nat}{d:Tab}(k:TabRd h db d):CallsH Tryz.prog 41 #[.pointer (some ⟨db,0,none⟩)] h (Ret fun r h'=>r= .bool (decide (d.next.length=0))∧h'=h):=by
 obtain⟨vn,vr,hk,⟨na,nn,nc,rfl,hnl,_⟩,h2⟩:=k;refine CallsH.of Tryz.func41 rfl rfl ?_;refine xrd Tryz.func41 1 [0,2] rfl ?_;refine G.seq rfl ?_;refine G.regTo1 [(2,.bool (decide (d.next.length=0)))] [(0,_)] ⟨rfl,trivial⟩ Tryz.func41 rfl ?_ ?_
 · refine xqp 1 rfl rfl (OpP.eqlNil Tryz.underlying58 rfl rfl) ?_;refine xqm 1 rfl ?_;refine RW.know (d:=5) (b':=false) rfl (rfl) ?_;refine xqp 2 rfl rfl (OpP.fieldAddr (off:=0) Tryz.underlying98 rfl rfl H.sz96 rfl) ?_;refine xp rfl (OpP.load H.ag96 rfl (hk.cell (i:=0) rfl)) ?_;refine xp rfl (OpP.lenSlice Tryz.underlying96 rfl) ?_;refine xqm 3 rfl ?_;refine RW.done rfl ?_;exact⟨rfl,at_bool rfl (by simp only[decide_eq_decide];omega),rfl,trivial⟩
 · refine G.ret Tryz.func41 rfl rfl ?_;exact⟨_,rfl,rfl,rfl⟩
theorem dnone_calls {p:Value}{d:Tab}(k:TabAt h p d):CallsH Tryz.prog 41 #[p] h (Ret fun r h'=>r= .bool (decide (d.next.length=0))∧h'=h):=by
 rcases k with ⟨rfl,rfl⟩|⟨db,rfl,k⟩
 · exact dnone_nil
 · exact dnone_at k
theorem dmatch_calls {p:Value}{d:Tab}{s:By}{a:Int}(k:TabAt h p d) (hok:d.Ok) (hs:s.length≤1000000) :
 CallsH Tryz.prog 71 #[p,.string (bs s),.int .i64 a] h (Ret fun r h'=>r= .tuple #[.int .i64 (dmatchA d s a).1,.int .i64 (dmatchA d s a).2.1,.int .i64 (dmatchA d s a).2.2]∧h'=h):=by
 have hbs:=bs_size s;refine CallsH.of Tryz.func71 rfl rfl ?_;refine xrd Tryz.func71 3 [0,1,2,6,7,8] rfl ?_;refine xrd Tryz.func71 1 [0,1,2,6,7,8] rfl ?_;refine G.seq rfl ?_;refine G.seq rfl ?_;refine G.regTo1 [(22,.bool (decide (d.next.length=0∨a<0∨(s.length:Int)<a)))] [(0,_),(1,_),(2,_),(6,_),(7,_),(8,_)] ⟨rfl,rfl,rfl,rfl,rfl,rfl,trivial⟩ Tryz.func71 rfl ?_ ?_
 · refine xqm 1 rfl ?_;refine xo rfl (OpX.call (vs:=[_]) Tryz.func41 rfl H.nm41 rfl (CallsH.toX (dnone_calls k))) ?_;rintro _ h0 ⟨rfl,hh0⟩;subst hh0;refine xqm 1 rfl ?_;refine RW.split (d:=13) rfl (fun hg=>?_) (fun hg=>?_)
   · have hg':=of_decide_eq_true hg;refine xqm 9 rfl ?_;refine RW.done rfl ?_;exact⟨rfl,at_bool rfl (by simp[hg']),rfl,rfl,rfl,rfl,rfl,rfl,trivial⟩
   · have hg':=of_decide_eq_false hg;refine xqm 4 rfl ?_;refine RW.split (d:=17) rfl (fun hg2=>?_) (fun hg2=>?_)
     · have hg2':=of_decide_eq_true hg2;refine xqm 5 rfl ?_;refine RW.done rfl ?_;exact⟨rfl,at_bool rfl (by simp[hg2']),rfl,rfl,rfl,rfl,rfl,rfl,trivial⟩
     · have hg2':=of_decide_eq_false hg2;refine xqp 2 rfl rfl (OpP.lenString Tryz.underlying9 rfl) ?_;refine xqm 2 rfl ?_;refine RW.done rfl ?_;exact⟨rfl,at_bool rfl (by simp only[decide_eq_decide];omega),rfl,rfl,rfl,rfl,rfl,rfl,trivial⟩
 · refine G.ite rfl rfl (fun hz=>?_) (fun hz=>?_)
   · refine xrd Tryz.func71 4 [0,1,2,6,7,8,22] rfl ?_;refine G.ret Tryz.func71 rfl rfl ?_;rw[dmatchA,if_pos hz];exact⟨_,rfl,rfl,rfl⟩
   · obtain⟨k0,rfl⟩:=Int.eq_ofNat_of_zero_le (show 0≤a by omega);have hk0:k0≤s.length:=by omega
     have hma:dmatchA d s (k0:Nat)=dmatchG d (s.drop k0) 0 0 (0,-1):=by rw[dmatchA,if_neg hz];rfl
     rw[hma];generalize htgt:dmatchG d (s.drop k0) 0 0 (0,-1)=tgt
     rcases k with ⟨_,rfl⟩|⟨db,rfl,vn,vr,hk,⟨na,nn,nc,rfl,hnl,_,_,hgetn⟩,⟨ra,rn,rc,rfl,hrl,_,_,hgetr⟩⟩
     exact absurd (.inl rfl) hz;have hlen:=hok.len;have hsize:=hok.size;refine G.skip rfl ?_;refine G.seq rfl ?_;refine xrd Tryz.func71 1 [0,1,2,6,7,8,9,22] rfl ?_;refine G.block rfl rfl ?_;refine G.loop (σ:=Int×Nat×Int×Int) (fun q=>[(0,.pointer (some ⟨db,0,none⟩)),(1,.string (bs s)),(2,.int .i64 (k0:Nat)),(6,.int .i64 q.2.2.1),(7,.int .i64 q.2.2.2),(8,.int .i64 (q.2.1:Nat)),(9,.int .i64 q.1)]) (fun q h'=>h'=h∧k0+q.2.1≤s.length∧(0≤q.1→q.1<d.next.length∧dmatchG d (s.drop (k0+q.2.1)) q.1.toNat q.2.1 q.2.2=tgt)∧(q.1<0→(q.2.2.1,q.2.2.2,(q.2.1:Int))=tgt)) (fun q=>2*(s.length-(k0+q.2.1))+(if 0≤q.1 then 1 else 0)) ((0,0,0,-1)) rfl ⟨rfl,rfl,rfl,rfl,rfl,rfl,rfl,trivial⟩ ⟨rfl,by simpa using hk0,fun _=>⟨by show (0:Int)<_;omega,by simpa using htgt⟩,fun k=>absurd k (by decide)⟩ ?_;rintro⟨st,i,b1,b2⟩ g ⟨rfl,hki,hpos,hneg⟩ ih
     try dsimp only
     dsimp only at hki hpos hneg;refine G.seq rfl ?_;refine xrd Tryz.func71 2 [0,1,2,6,7,8,9,25] rfl ?_;refine G.ite rfl rfl (fun hst=>?_) (fun hst=>?_)
     · obtain⟨hlt,hcon⟩:=hpos hst;obtain⟨j,rfl⟩:=Int.eq_ofNat_of_zero_le hst;have hcon:dmatchG d (s.drop (k0+i)) j i (b1,b2)=tgt:=hcon;obtain⟨x,hx⟩:∃x,d.rule[j]? =some x:=⟨_,List.getElem?_eq_getElem (by omega)⟩
       have hru:d.ru j=x:=by unfold Tab.ru;rw[List.getD_eq_getElem?_getD,hx];rfl
       obtain⟨b,o,cs,ha,_,hrow,rfl⟩:=hgetr j x hx;refine G.skip rfl ?_;refine G.block rfl rfl ?_;refine G.seq rfl ?_;refine xra Tryz.func71 2 rfl ?_;refine xp rfl (OpP.fieldAddr (off:=1) Tryz.underlying98 rfl rfl H.sz76 rfl) ?_;refine xp rfl (OpP.load H.ag76 rfl (hk.cell (i:=1) rfl)) ?_;refine xqp 1 rfl rfl (OpP.indexSlice Tryz.underlying76 H.sz3 rfl rfl j rfl ha (by omega)) ?_;refine xp rfl (OpP.load H.ag3 rfl (hrow 0 _ rfl)) ?_;refine xqd 1 [0,1,2,6,7,8,9,10,25] rfl ?_;refine xrd Tryz.func71 2 [0,1,2,6,7,8,9,10,25,34] rfl ?_
       have fin:∀(c1 c2:Int) (h':Heap) (ρ':Env),Sub [(0,.pointer (some ⟨db,0,none⟩)),(1,.string (bs s)),(2,.int .i64 (k0:Nat)),(6,.int .i64 c1),(7,.int .i64 c2),(8,.int .i64 (i:Nat)),(9,.int .i64 (j:Nat))] ρ'→h'=g→(c1,c2)=(if 0≤d.ru j then ((i:Int),d.ru j) else (b1,b2))→G Tryz.prog 71 Tryz.f71 [.code [1,0,1,0,0,1,0,1,1,1],.blk 1,.loop [0,0,1,0,1,1,1],.blk 0,.code [1,1,1,1]] ρ' h' (Ret fun r h'=>r= .tuple #[.int .i64 tgt.1,.int .i64 tgt.2.1,.int .i64 tgt.2.2]∧h'=g):=by
        rintro c1 c2 g1 ρ' hsub rfl hc;refine G.sub (ρ':=[(0,.pointer (some ⟨db,0,none⟩)),(1,.string (bs s)),(2,.int .i64 (k0:Nat)),(6,.int .i64 c1),(7,.int .i64 c2),(8,.int .i64 (i:Nat)),(9,.int .i64 (j:Nat))]) hsub ?_;refine G.seq rfl ?_;refine xra Tryz.func71 2 rfl ?_;refine xp rfl (OpP.add64 rfl rfl ⟨by omega,by omega⟩) ?_;refine xqp 1 rfl rfl (OpP.lenString Tryz.underlying9 rfl) ?_;refine xqd 1 [0,1,2,6,7,8,9,42] rfl ?_;refine G.ite rfl rfl (fun hend=>?_) (fun hend=>?_)
        · have hd:s.drop (k0+i)=[]:=List.drop_of_length_le (by omega);rw[hd,dmatchG] at hcon
          have hcon:(c1,c2,(i:Int))=tgt:=by
           rw[←hcon]
           by_cases h0:0≤d.ru j
           · rw[if_pos h0] at hc ⊢;cases hc;rfl
           · rw[if_neg h0] at hc ⊢;cases hc;rfl
          refine G.exit rfl rfl ?_;refine xrd Tryz.func71 6 [0,1,2,6,7,8,9,42] rfl ?_;refine G.ret Tryz.func71 rfl rfl ?_;exact⟨_,rfl,by rw[←hcon];rfl,rfl⟩
        · have hki2:k0+i<s.length:=by omega
          have hd:s.drop (k0+i)=s[k0+i]::s.drop (k0+i+1):=List.drop_eq_getElem_cons hki2;rw[hd,dmatchG,←hc] at hcon;obtain⟨r,hr⟩:∃r,d.next[j]? =some r:=⟨_,List.getElem?_eq_getElem (by omega)⟩
          obtain⟨b3,o3,cs3,ha3,_,hrow3,rfl⟩:=hgetn j r hr;obtain⟨y,hy,he,_⟩:=r.at s[k0+i];have hc8:=s[k0+i].toNat_lt;have hto:d.to j s[k0+i]=y:=by unfold Tab.to;rw[hr];exact he
          have hb:=Tab.to_lt hok (s:=j) s[k0+i];rw[hto] at hcon hb;have hcell:cellAt g1 ⟨b3,o3+j*256+s[k0+i].toNat*1,none⟩=some (.int .i64 y):=by rw[Nat.mul_one];exact hrow3 _ _ (by simp[encRow,hy])
          refine G.skip rfl ?_;refine G.seq rfl ?_;refine G.drawQ Tryz.func71 H.mixed rfl (by kernel_rfl) ?_;refine RQ.pureS rfl rfl rfl rfl (OpP.move rfl) ?_;refine RQ.pureS rfl rfl rfl rfl (OpP.nilCheck rfl) ?_;refine RQ.pureS rfl rfl rfl rfl (OpP.fieldAddr (off:=0) Tryz.underlying98 rfl rfl H.sz96 rfl) ?_;refine RQ.pureS rfl rfl rfl rfl (OpP.load H.ag96 rfl (hk.cell (i:=0) rfl)) ?_;refine RQ.pureS rfl rfl rfl rfl (OpP.move rfl) ?_;refine RQ.pureS rfl rfl rfl rfl (OpP.move rfl) ?_;refine RQ.pureS rfl rfl rfl rfl (OpP.move rfl) ?_;refine RQ.pureS rfl rfl rfl rfl (OpP.move rfl) ?_;refine RQ.pureS rfl rfl rfl rfl (OpP.add64 rfl rfl ⟨by omega,by omega⟩) ?_;refine RQ.pureS rfl rfl rfl rfl (OpP.indexStr Tryz.underlying9 rfl rfl (k0+i) (by omega) (bs_at (List.getElem?_eq_getElem hki2))) ?_;refine RQ.pureS rfl rfl rfl rfl (OpP.indexSlice Tryz.underlying96 H.sz102 rfl rfl j rfl ha3 (by omega)) ?_;refine RQ.pureS rfl rfl rfl rfl (OpP.indexArr Tryz.underlying102 H.sz3 rfl rfl s[k0+i].toNat rfl (by omega)) ?_;refine RQ.pureS rfl rfl rfl rfl (OpP.load H.ag3 rfl hcell) ?_;refine RQ.pureS rfl rfl rfl rfl (OpP.assign rfl) ?_;refine RQ.done rfl ?_;refine xu [0,1,2,6,7,8,9,42] rfl ?_;refine xrd Tryz.func71 2 [0,1,2,6,7,8,9,42,57] rfl ?_;refine G.ite rfl rfl (fun hy0=>?_) (fun hy0=>?_)
          · rw[if_pos hy0] at hcon;obtain⟨j2,rfl⟩:=Int.eq_ofNat_of_zero_le hy0;refine G.reg Tryz.func71 rfl ?_;refine xqp 1 rfl rfl (OpP.add64 rfl rfl ⟨by omega,by omega⟩) ?_;refine xqd 1 [0,1,2,6,7,8,9,42,57] rfl ?_;refine G.blkEnd ?_;exact ih ((j2:Int),i+1,c1,c2) _ _ ⟨rfl,rfl,rfl,rfl,rfl,rfl,rfl,trivial⟩ ⟨rfl,by show k0+(i+1)≤s.length;omega,fun _=>⟨hb.2,by show dmatchG d (s.drop (k0+(i+1))) _ _ _=tgt;rw[show k0+(i+1)=k0+i+1 by omega];exact hcon⟩,fun k=>absurd k (by show ¬(j2:Int)<0;omega)⟩ (by show 2*(s.length-(k0+(i+1)))+(if (0:Int)≤(j2:Nat) then 1 else 0)<2*(s.length-(k0+i))+(if (0:Int)≤(j:Nat) then 1 else 0);rw[if_pos (by omega),if_pos (by omega)];omega)
          · rw[if_neg hy0] at hcon;refine G.skip rfl ?_;refine G.blkEnd ?_;exact ih (y,i,c1,c2) _ _ ⟨rfl,rfl,rfl,rfl,rfl,rfl,rfl,trivial⟩ ⟨rfl,hki,fun k=>absurd k hy0,fun _=>by show (c1,c2,(i:Int))=tgt;rw[←hcon];by_cases h0:0≤d.ru j;(rw[if_pos h0] at hc ⊢;cases hc;rfl);(rw[if_neg h0] at hc ⊢;cases hc;rfl)⟩ (by show 2*(s.length-(k0+i))+(if (0:Int)≤y then 1 else 0)<2*(s.length-(k0+i))+(if (0:Int)≤(j:Nat) then 1 else 0);rw[if_neg hy0,if_pos (by omega)];omega)
       refine G.ite rfl rfl (fun hr=>?_) (fun hr=>?_)
       · refine G.reg Tryz.func71 rfl ?_;refine xqd 4 [0,1,2,6,7,8,9,10,25,34] rfl ?_;exact fin _ _ _ _ ⟨rfl,rfl,rfl,rfl,rfl,rfl,rfl,trivial⟩ rfl (by rw[hru,if_pos hr])
       · refine G.skip rfl ?_;exact fin _ _ _ _ ⟨rfl,rfl,rfl,rfl,rfl,rfl,rfl,trivial⟩ rfl (by rw[hru,if_neg hr])
     · have hcon:=hneg (by omega);refine G.exit rfl rfl ?_;refine xrd Tryz.func71 6 [0,1,2,6,7,8,9,25] rfl ?_;refine G.ret Tryz.func71 rfl rfl ?_;exact⟨_,rfl,by rw[←hcon];rfl,rfl⟩
end
end Go.Proofs.YtfegacfjgjaghaaGreatDoor
namespace Go.Proofs.YtfegacfjgjaghaaGreatDoor
open Go
def keyN (l:List Nat):By:=keyP (l.map Int.ofNat)
theorem keyN_inj {l m:List Nat}(h:keyN l=keyN m):l=m:=by
 have:=key_inj h
 have hi:∀a b:List Nat,a.map Int.ofNat=b.map Int.ofNat→a=b:=by
  intro a
  induction a with
  |nil=>intro b h;cases b with
   |nil=>rfl
   |cons y b=>simp at h
  |cons x a ih=>intro b h;cases b with
   |nil=>simp at h
   |cons y b =>
    simp only[List.map_cons,List.cons.injEq] at h;rw[ih b h.2];have:=h.1;simp only[Int.ofNat_eq_natCast] at this;rw[show x=y by omega]
 exact hi _ _ this
def findL:Nat→List (List Nat)→List Nat→Option Nat
 |_,[],_=>none
 |i,x::r,l=>if l=x then some i else findL (i+1) r l
theorem findL_some:∀(ls:List (List Nat)) (i j:Nat) (l:List Nat),findL i ls l=some j→i≤j∧ls[j-i]? =some l
 | [],i,j,l,h=>by cases h
 |x::r,i,j,l,h=>by
  rw[findL] at h;split at h
  · rename_i e;cases h;subst e;exact⟨Nat.le_refl _,by simp⟩
  · have:=findL_some r (i+1) j l h;refine⟨by omega,?_⟩;rw[show j-i=(j-(i+1))+1 by omega,List.getElem?_cons_succ];exact this.2
theorem findL_none:∀(ls:List (List Nat)) (i:Nat) (l:List Nat),findL i ls l=none→l∉ls
 | [],i,l,_=>List.not_mem_nil
 |x::r,i,l,h=>by
  rw[findL] at h;split at h
  · cases h
  · rename_i e;have:=findL_none r (i+1) l h;simp only[List.mem_cons,not_or];exact⟨e,this⟩
def rowStep (ss:List Ste) (cur:List Nat) (lists:List (List Nat)) (b:Nat):List (List Nat)×Int :=
 if (stepP ss (UInt8.ofNat b) cur).length=0 then (lists,-1)
 else match findL 0 lists (stepP ss (UInt8.ofNat b) cur) with
  |some i=>(lists,(i:Int))
  |none=>(lists++[stepP ss (UInt8.ofNat b) cur],(lists.length:Int))
def rowG (ss:List Ste) (cur:List Nat):Nat→Nat→List (List Nat)→List Int→List (List Nat)×List Int
 | 0,_,lists,row=>(lists,row)
 |n+1,b,lists,row=>rowG ss cur n (b+1) (rowStep ss cur lists b).1 (row++[(rowStep ss cur lists b).2])
def mkRow (l:List Int):Row:=⟨(l++List.replicate 256 (-1)).take 256,by rw[List.length_take,List.length_append,List.length_replicate];omega⟩
theorem mkRow_v {l:List Int}(h:l.length=256):(mkRow l).v=l:=by
 unfold mkRow;simp only;rw[List.take_append_of_le_length (by omega),List.take_of_length_le (by omega)]
def dmakeG (ss:List Ste):Nat→Nat→List (List Nat)→List Row→List Int→Option Tab
 | 0,_,_,_,_=>none
 |n+1,k,lists,next,rule =>
  match lists[k]? with
  |none=>some ⟨next,rule⟩
  |some cur =>
   if 2000<(rowG ss cur 256 0 lists []).1.length then none
   else dmakeG ss n (k+1) (rowG ss cur 256 0 lists []).1 (next++[mkRow (rowG ss cur 256 0 lists []).2]) (rule++[acceptsP ss cur])
def dmakeP (ss:List Ste) (st:Nat):Int ⊕ Tab :=
 if (startP ss st).length=0 then .inl 1
 else match dmakeG ss 2002 0 [startP ss st] [] [] with
  |none=>.inl 70
  |some d=>.inr d
end Go.Proofs.YtfegacfjgjaghaaGreatDoor
namespace Go.Lw
section
variable {α:Type}{n i base size b:Nat}{h:Heap}{t:TypeId}{v:Value}{xs:List Value}
theorem OwE.at {α:Type}{enc:α→Value}{h:Heap}{base:Nat}{t:TypeId}{v:Value}{xs:List α}(k:OwE enc h base t v xs){i:Nat}{x:α}(hx:xs[i]? =some x) :
 ∃g c,v= .slice (some ⟨g,0,none⟩) xs.length c∧base≤g∧g<h.size∧cellAt h ⟨g,0+i*1,none⟩=some (enc x)∧frozenAt h ⟨g,0+i*1,none⟩=false ∧
  ∀y,OwE enc (setC h ⟨g,0+i*1,none⟩ (enc y)) base t v (xs.set i y):=by
 obtain⟨oa,c,rfl,hw⟩:=(show OwnH h base t 1 v xs.length (xs.map enc) from k).open;obtain⟨g,ha,hb,hlt,hc,hf⟩:=hw.at (i:=i) (x:=enc x) (by rw[List.getElem?_map,hx];rfl);refine⟨g,c,by rw[ha],hb,hlt,hc,hf,fun y=>?_⟩;have hi:i<xs.length:=(List.getElem?_eq_some_iff.1 hx).1;have:=(hw.set ha hi (enc y)).own;unfold OwE;rw[List.length_set,List.map_set];exact this
theorem fill_set {l:List α}{z:α}(hl:l.length=n) (hi:i<n):(l.take i++List.replicate (n-i) z).set i l[i]=l.take (i+1)++List.replicate (n-(i+1)) z:=by
 rw[List.set_append_right _ _ (by simp;omega)];have e1:i-(l.take i).length=0:=by simp;omega
 have e2:n-i=(n-(i+1))+1:=by omega
 rw[e1,e2,List.replicate_succ,List.set_cons_zero,List.take_succ_eq_append_getElem (by omega),List.append_assoc];rfl
theorem fill_get {l:List α}{z:α}(hl:l.length=n) (hi:i<n):(l.take i++List.replicate (n-i) z)[i]? =some z:=by
 have h1:(l.take i).length=i:=by rw[List.length_take];omega
 rw[List.getElem?_append_right (by omega),h1,Nat.sub_self,List.getElem?_replicate,if_pos (by omega)]
theorem fill_len {l:List α}{z:α}(hl:l.length=n) (hi:i≤n):(l.take i++List.replicate (n-i) z).length=n:=by
 rw[List.length_append,List.length_take,List.length_replicate];omega
theorem OwnH.raise {base':Nat}(k:OwnH h base t size v n xs) (hb:∀b,v.ownBlock=some b→base'≤b):OwnH h base' t size v n xs:=by
 rcases k with ⟨k1,k2|⟨g,cap,cur,rfl,hg,k3⟩⟩
 · exact⟨k1,.inl k2⟩
 · exact⟨k1,.inr ⟨g,cap,cur,rfl,hb g rfl,k3⟩⟩
theorem OwnH.ty (k:OwnH h base t size v n xs) (hb:v.ownBlock=some b):∃cur:Array Value,∃fr,h[b]? =some (.cells cur t fr):=by
 rcases k.2 with ⟨rfl,_⟩|⟨g,cap,cur,rfl,_,hg,_⟩
 · cases hb
 · cases hb;exact⟨_,_,hg⟩
def TyAt (h:Heap) (b:Nat) (t:TypeId):Prop:=∃cur:Array Value,∃fr,h[b]? =some (.cells cur t fr)
theorem TyAt.ne {b':Nat}{t':TypeId}(k:TyAt h b t) (k':TyAt h b' t') (ht:t≠t'):b≠b':=by
 rintro rfl;obtain⟨c,f,h1⟩:=k;obtain⟨c',f',h2⟩:=k';rw[h1] at h2;cases h2;exact ht rfl
theorem Blk.ty {cs:List Value}(k:Blk h b t cs):TyAt h b t:=⟨_,_,k⟩
theorem MapH.ne {β:Type}{ek:α→Value}{ev:β→Value}{m:Nat}{l:List (α×β)}(k:MapH ek ev h m l) (k':TyAt h b t):m≠b:=by
 rintro rfl;obtain⟨es,c,h1,_⟩:=k;obtain⟨c',f',h2⟩:=k';rw[h1] at h2;cases h2
theorem TyAt.ext {M:Nat→Prop}{h':Heap}(k:TyAt h b t) (e:Ext M h h') (hm:¬M b):TyAt h' b t:=by
 obtain⟨c,f,h1⟩:=k;exact⟨c,f,(e.block b (Array.getElem?_eq_some_iff.1 h1).1 hm).trans h1⟩
theorem TyAt.lt (k:TyAt h b t):b<h.size:=by
 obtain⟨c,f,h1⟩:=k;exact(Array.getElem?_eq_some_iff.1 h1).1
theorem OwnH.shut2 {enc:α→Value} {h1:∀x,(enc x).oneCell'=true}{O:Nat→Prop}{xs:List α}(k:OwnH h base t 1 v n (xs.map enc)) (ho:∀b,v.ownBlock=some b→¬O b):SlR (.flat enc h1) h O v xs:=by
 have k0:SlR (.flat enc h1) h (fun _=>False) v xs:=OwnH.shut k (fun _ _ k=>k)
 rcases k.2 with ⟨rfl,hn0⟩|⟨g,cap,cur,rfl,hb,hg,hnc,hc,hs,ht⟩
 · have hl:xs.length=0:=by have:=k.1;simp at this;omega
   have:xs=[]:=List.eq_nil_of_length_eq_zero hl;subst this;exact⟨none,0,0,rfl,rfl,Nat.le_refl _,by simp[maxLen],fun i x hx=>by simp at hx⟩
 · obtain⟨oa,n',c',hv,hl,hnc',hc',hget⟩:=k0;cases hv;refine⟨_,_,_,rfl,hl,hnc',hc',fun i x hx=>?_⟩;obtain⟨b,o,cs,h2,_,h3,h4⟩:=hget i x hx;cases h2;exact⟨_,_,cs,rfl,ho _ rfl,h3,h4⟩
section
variable {P:Program}{ρ:Env}{h:Heap}{dst:Option Nat}{ty:TypeId}{pos:String}{after:Array Edge}{guard:Option (Nat×Bool)}{X:List PanicEntry→Heap→Prop}
theorem OpP.indexAgg {e:TypeId}{x y:Operand}{cs:Array Value}{k:IntKind}{j:Int}(hu:P.underlying t=some (.array n e)) (hs:szOf P e=some 1) (hr:isRowT P e=some false) (hx:opd ρ x=some (.agg cs)) (hy:opd ρ y=some (.int k j)) (i:Nat) (hj:j=i) (hi:i<n) (hv:cs[i]? =some v) :
 OpP P ⟨dst,.index t x y,ty,pos,after,guard⟩ ρ h v:=by
 intro _ B a w hf _;subst hj;simp[execOp,Instr.index,run_underlying hu,asIntOf,hf.eval hx,hf.eval hy,run_sizeOf hs,hi,part,run_isAgg' hr,hv]
theorem OpX.appendBig {e:TypeId}{bytes:Nat}{x y:Operand}{news:List Value}{m c:Nat}{h0:Heap}(ht:P.underlying t=some (.slice e)) (he:ElemT P e size bytes)
 (hx:opd ρ x=some v) (hy:opd ρ y=some (.slice (some ⟨h0.size,0,none⟩) m c)) (hown:OwnH h0 base e size v n xs) (hh:h=h0.push (.cells news.toArray e)) (hl:news.length=m*size)
 (h1:∀u∈news,u.oneCell'=true) (hn:n+m≤maxLen) (hmul:(n+m)*bytes≤140737488355328) (hbase:base≤h0.size) :
 OpX P ⟨dst,.call ⟨.builtin .append,#[x,y],#[t,t]⟩,ty,pos,after,guard⟩ ρ h (fun v' h'=>OwnH h' base e size v' (n+m) (xs++news)∧Ext (but v.ownBlock) h0 h'∧Ext (but v.ownBlock) h h'∧(∀b,v'.ownBlock=some b→v.ownBlock=some b∨h0.size≤b)) X:=by
 subst hh;have hp:=Ext.push (fun _=>False) h0 (.cells news.toArray e);have hs:(h0.push (.cells news.toArray e)).size=h0.size+1:=by simp
 refine(OpX.append ht he hx hy (hown.ext hp (fun _ _ k=>k)) hl (.inr ⟨_,_,rfl,row_push _ _ _⟩) h1 hn hmul (by omega)).mono (fun v' h' ⟨k1,k2,_,k4⟩=>⟨k1,?_,k2,fun b hb=>?_⟩) (fun _ _ k=>k)
 · exact(Ext0.of hp).trans k2
 · rcases k4 b hb with k|k
   · exact .inl k
   · exact .inr (by omega)
end
end
end Go.Lw
namespace Go.Proofs.YtfegacfjgjaghaaGreatDoor
open Go Go.Lw
set_option maxRecDepth 20000
def LstAt (h:Heap) (O:Nat→Prop) (cs:List Value) (x:List Nat):Prop:=∃v,cs=[v]∧SlR eNat h O v x
def eLst:Elt (List Nat):=⟨1,by decide,LstAt,fun h=>by obtain⟨v,rfl,_⟩:=h;rfl,fun h=>by
 obtain⟨v,rfl,hv⟩:=h;intro u hu;simp at hu;subst hu;exact SlR.isOne hv,fun h m=>by
 obtain⟨v,hc,hv⟩:=h;exact⟨v,hc,hv.mv m⟩⟩
def seenL:Nat→List (List Nat)→List (ByteArray×Int)
 |_,[]=>[]
 |i,x::r=>(bs (keyN x),(i:Int))::seenL (i+1) r
theorem seen_snoc:∀(ls:List (List Nat)) (i:Nat) (l:List Nat),seenL i (ls++[l])=seenL i ls++[(bs (keyN l),((i+ls.length:Nat):Int))]
 | [],i,l=>by simp[seenL]
 |x::r,i,l=>by
  simp only[List.cons_append,seenL];rw[seen_snoc r (i+1) l,List.length_cons,show i+1+r.length=i+(r.length+1) by omega]
theorem asc_seen:∀(ls:List (List Nat)) (i:Nat) (l:List Nat),asc (bs (keyN l)) (seenL i ls)=(findL i ls l).map fun j=>(j:Int)
 | [],i,l=>rfl
 |x::r,i,l=>by
  rw[seenL,asc,findL]
  by_cases h:l=x
  · subst h;rw[if_pos rfl,if_pos rfl];rfl
  · have hk:¬bs (keyN l)=bs (keyN x):=fun e=>h (keyN_inj (bs_inj e))
    rw[if_neg hk,if_neg h];exact asc_seen r (i+1) l
theorem SlR.ints {h:Heap}{O:Nat→Prop}{v:Value}{l:List Nat}(k:SlR eNat h O v l):SlR (.int .i64) h O v (l.map Int.ofNat):=by
 obtain⟨oa,n,c,rfl,hl,hnc,hc,hg⟩:=k;refine⟨oa,n,c,rfl,by simpa using hl,hnc,hc,fun i x hx=>?_⟩;rw[List.getElem?_map] at hx;cases hs:l[i]? with
 |none=>rw[hs] at hx;cases hx
 |some s =>
  rw[hs] at hx;simp only[Option.map_some,Option.some.injEq] at hx;subst hx;obtain⟨b,o,cs,h1,h2,h3,h4⟩:=hg i s hs;exact⟨b,o,cs,h1,h2,h3,h4⟩
structure MkAt (h0 h:Heap) (C:Nat→Prop) (db mb:Nat) (vl vn vr:Value) (lists:List (List Nat)) (next:List Row) (rule:List Int):Prop where
 ext:Ext0 h0 h
 dblk:Blk h db 98 [vn,vr]
 nx:OwR 256 encRow h h0.size 102 vn next
 ru:OwE (Value.int .i64) h h0.size 3 vr rule
 mp:MapH Value.string (Value.int .i64) h mb (seenL 0 lists)
 ls:OwX eLst (fun b=>¬C b) h h0.size 76 vl lists
 cty:∀b,C b→TyAt h b 3
 cr:∀b,vr.ownBlock=some b→¬C b
 dge:h0.size≤db
 mge:h0.size≤mb
section
variable {h0 h:Heap}{C:Nat→Prop}{db mb:Nat}{vl vn vr:Value}{lists:List (List Nat)}{next:List Row}{rule:List Int}
theorem MkAt.lty (k:MkAt h0 h C db mb vl vn vr lists next rule):∀b,vl.ownBlock=some b→TyAt h b 76:=fun b hb=>by
 obtain⟨css,_,h2,_⟩:=k.ls;exact h2.ty hb
theorem MkAt.nty (k:MkAt h0 h C db mb vl vn vr lists next rule):∀b,vn.ownBlock=some b→TyAt h b 102:=fun _ hb=>OwnH.ty k.nx hb
theorem MkAt.rty (k:MkAt h0 h C db mb vl vn vr lists next rule):∀b,vr.ownBlock=some b→TyAt h b 3:=fun _ hb=>OwnH.ty k.ru hb
theorem MkAt.lge (k:MkAt h0 h C db mb vl vn vr lists next rule):∀b,vl.ownBlock=some b→h0.size≤b:=fun b hb=>by
 obtain⟨css,_,h2,_⟩:=k.ls;exact(h2.lt hb).1
theorem MkAt.ext0 {h':Heap}(k:MkAt h0 h C db mb vl vn vr lists next rule) (e:Ext0 h h'):MkAt h0 h' C db mb vl vn vr lists next rule :=
 ⟨k.ext.trans e,k.dblk.ext0 e,OwR.ext0 k.nx e,OwE.ext0 k.ru e,k.mp.ext e (fun k=>k),k.ls.ext0 e,fun b hb=>(k.cty b hb).ext e (fun k=>k),k.cr,k.dge,k.mge⟩
theorem MkAt.put {h':Heap}{x:Nat}(k:MkAt h0 h C db mb vl vn vr lists next rule) (e:Ext (fun b=>b=x) h h') (hx:TyAt h x 102) (hn:vn.ownBlock≠some x) (hge:h0.size≤x):MkAt h0 h' C db mb vl vn vr lists next rule:=by
 have hd:¬db=x:=k.dblk.ty.ne hx (by decide);have hm:¬mb=x:=k.mp.ne hx;have hl:∀b,vl.ownBlock=some b→¬b=x:=fun b hb=>(k.lty b hb).ne hx (by decide)
 have hr:∀b,vr.ownBlock=some b→¬b=x:=fun b hb=>(k.rty b hb).ne hx (by decide)
 have hc:∀b,C b→¬b=x:=fun b hb=>(k.cty b hb).ne hx (by decide)
 exact⟨Ext0.only k.ext e hge,k.dblk.ext e hd,OwnH.ext e k.nx (fun b hb hbx=>hn (by subst hbx;exact hb)),OwnH.ext e k.ru hr,k.mp.ext e hm,
  k.ls.mv2 e hl (fun b _ hb hC=>hc b hC hb) (fun _ _ k=>k),fun b hb=>(k.cty b hb).ext e (hc b hb),k.cr,k.dge,k.mge⟩
end
section
variable {h0 h:Heap}{C:Nat→Prop}{db mb:Nat}{vl vn vr:Value}{lists:List (List Nat)}{next:List Row}{rule:List Int}
theorem MkAt.setN {g3 g4:Heap}{v3:Value}{r:Row}{n:Nat}(k:MkAt h0 h C db mb vl vn vr lists next rule) (hn:n=next.length) (ho:OwnH g3 h0.size 102 256 v3 (n+1) (next.flatMap encRow++encRow r)) (hx:Ext (but vn.ownBlock) h g3) (hd:Blk g4 db 98 [v3,vr]) (x4:Ext (fun b=>b=db) g3 g4) :
 MkAt h0 g4 C db mb vl v3 vr lists (next++[r]) rule:=by
 have nne:∀{b:Nat}{t:TypeId},TyAt h b t→102≠t→¬but vn.ownBlock b:=fun kt ht e=>(k.nty _ e.symm).ne kt ht rfl
 have d3:=k.dblk.ext hx (nne k.dblk.ty (by decide));have dne:∀{b:Nat}{t:TypeId},TyAt g3 b t→98≠t→¬b=db:=fun kt ht e=>by subst e;exact d3.ty.ne kt ht rfl
 have mne:¬but vn.ownBlock mb:=fun e=>k.mp.ne (k.nty _ e.symm) rfl
 have hm3:=k.mp.ext hx mne;have hdlt:=k.dblk.lt;have ru3:=OwnH.ext hx k.ru (fun b hb=>nne (k.rty b hb) (by decide));have ls3:OwX eLst (fun b=>¬C b) g3 h0.size 76 vl lists:=k.ls.mv2 hx (fun b hb=>nne (k.lty b hb) (by decide)) (fun b _ hb hC=>nne (k.cty b hC) (by decide) hb) (fun _ _ k=>k);have lty3:∀b,vl.ownBlock=some b→TyAt g3 b 76:=fun b hb=>(k.lty b hb).ext hx (nne (k.lty b hb) (by decide))
 have cty3:∀b,C b→TyAt g3 b 3:=fun b hb=>(k.cty b hb).ext hx (nne (k.cty b hb) (by decide))
 refine⟨⟨by have:=k.ext.size;have:=hx.size;have:=x4.size;omega,fun b hb kk=>?_⟩,hd,?_,OwnH.ext x4 ru3 (fun b hb=>dne (OwnH.ty ru3 hb) (by decide)),hm3.ext x4 (hm3.ne d3.ty),ls3.mv2 x4 (fun b hb=>dne (lty3 b hb) (by decide)) (fun b _ hb hC=>dne (cty3 b hC) (by decide) hb) (fun _ _ k=>k),fun b hb=>(cty3 b hb).ext x4 (dne (cty3 b hb) (by decide)),k.cr,k.dge,k.mge⟩
 · rw[x4.block b (by have:=k.ext.size;have:=hx.size;omega) (by have:=k.dge;omega),hx.block b (by have:=k.ext.size;omega) (fun e=>by have:=(OwnH.lt k.nx e.symm).1;omega)];exact k.ext.block b hb kk
 · exact OwnH.ext x4 (OwR.of ho hn rfl) (fun b hb=>dne (OwnH.ty ho hb) (by decide))
theorem MkAt.setR {g3 g4:Heap}{v3:Value}{x:Int}{n:Nat}(k:MkAt h0 h C db mb vl vn vr lists next rule) (hn:n=rule.length) (ho:OwnH g3 h0.size 3 1 v3 (n+1) (rule.map (Value.int .i64)++[.int .i64 x])) (hx:Ext (but vr.ownBlock) h g3) (hv:∀b,v3.ownBlock=some b→vr.ownBlock=some b∨h.size≤b) (hd:Blk g4 db 98 [vn,v3]) (x4:Ext (fun b=>b=db) g3 g4) :
 MkAt h0 g4 C db mb vl vn v3 lists next (rule++[x]):=by
 have nne:∀{b:Nat}{t:TypeId},TyAt h b t→3≠t→¬but vr.ownBlock b:=fun kt ht e=>(k.rty _ e.symm).ne kt ht rfl
 have cne:∀{b:Nat},C b→¬but vr.ownBlock b:=fun hC e=>k.cr _ e.symm hC
 have d3:=k.dblk.ext hx (nne k.dblk.ty (by decide));have dne:∀{b:Nat}{t:TypeId},TyAt g3 b t→98≠t→¬b=db:=fun kt ht e=>by subst e;exact d3.ty.ne kt ht rfl
 have mne:¬but vr.ownBlock mb:=fun e=>k.mp.ne (k.rty _ e.symm) rfl
 have hm3:=k.mp.ext hx mne;have nx3:=OwnH.ext hx k.nx (fun b hb=>nne (k.nty b hb) (by decide));have ls3:OwX eLst (fun b=>¬C b) g3 h0.size 76 vl lists:=k.ls.mv2 hx (fun b hb=>nne (k.lty b hb) (by decide)) (fun b _ hb hC=>cne hC hb) (fun _ _ k=>k);have lty3:∀b,vl.ownBlock=some b→TyAt g3 b 76:=fun b hb=>(k.lty b hb).ext hx (nne (k.lty b hb) (by decide))
 have cty3:∀b,C b→TyAt g3 b 3:=fun b hb=>(k.cty b hb).ext hx (cne hb)
 refine⟨⟨by have:=k.ext.size;have:=hx.size;have:=x4.size;omega,fun b hb kk=>?_⟩,hd,OwnH.ext x4 nx3 (fun b hb=>dne (OwnH.ty nx3 hb) (by decide)),?_,hm3.ext x4 (hm3.ne d3.ty),ls3.mv2 x4 (fun b hb=>dne (lty3 b hb) (by decide)) (fun b _ hb hC=>dne (cty3 b hC) (by decide) hb) (fun _ _ k=>k),fun b hb=>(cty3 b hb).ext x4 (dne (cty3 b hb) (by decide)),fun b hb hC=>?_,k.dge,k.mge⟩
 · rw[x4.block b (by have:=k.ext.size;have:=hx.size;omega) (by have:=k.dge;omega),hx.block b (by have:=k.ext.size;omega) (fun e=>by have:=(OwnH.lt k.ru e.symm).1;omega)];exact k.ext.block b hb kk
 · exact OwnH.ext x4 (OwE.of (ys:=[x]) ho hn rfl rfl) (fun b hb=>dne (OwnH.ty ho hb) (by decide))
 · rcases hv b hb with e|e
   · exact k.cr b e hC
   · have:=(k.cty b hC).lt;omega
end
def MakeRes (res:Int ⊕ Tab) (h':Heap) (r:Value):Prop:=match res with
 |.inl e=>r= .tuple #[.pointer none,.int .i64 e]
 |.inr d=>∃db,r= .tuple #[.pointer (some ⟨db,0,none⟩),.int .i64 0]∧TabRd h' db d
theorem dmake_calls {h:Heap}{O:Nat→Prop}{nb:Nat}{v:Value}{ss:List Ste}{st:Nat}(htens:Tens h) (hn:NfaAt h O nb v ss st) (hgood:Good ss) (hss:ss.length≤30000) (hst:st<ss.length) (hpot1:1+pot ss (List.replicate ss.length false)≤1000000)
 (hpot:∀c now,List.Sublist now (List.range ss.length)→(stepG ss c now []).length+pot ss (List.replicate ss.length false)≤1000000) :
 CallsH Tryz.prog 23 #[.pointer (some ⟨nb,0,none⟩)] h (Ret fun r h'=>MakeRes (dmakeP ss st) h' r∧Ext0 h h'):=by
 generalize hres:dmakeP ss st=res
 have hint:∀l:List Nat,l.Sublist (List.range ss.length)→(l.map Int.ofNat).length≤1000000∧∀n∈l.map Int.ofNat,-9223372036854775808≤n∧n≤9223372036854775807:=fun l hl=>by
  have h1:=hl.length_le;rw[List.length_range] at h1;refine⟨by rw[List.length_map];omega,fun n hn=>?_⟩;obtain⟨j,hj,rfl⟩:=List.mem_map.1 hn;have:=List.mem_range.1 (hl.subset hj);simp only[Int.ofNat_eq_natCast];omega
 refine CallsH.of Tryz.func23 rfl rfl ?_;refine xrd Tryz.func23 2 [0,2,3] rfl ?_;refine xra Tryz.func23 1 rfl ?_;refine xo rfl (OpX.call (vs:=[_]) Tryz.func37 rfl H.nm37 rfl (CallsH.toX (start_calls hn hgood (by omega) (.inr hst) hpot1))) ?_;rintro w4 h1 ⟨ho1,e1⟩;have hsub0:=startP_sub ss st;generalize hl0:startP ss st=l0 at *;have hi0:=hint l0 hsub0;obtain⟨wa,wc,rfl,_⟩:=(show OwnH h1 h.size 3 1 w4 l0.length (l0.map encN) from ho1).open;refine xqd 1 [0,2,3,4] rfl ?_;refine G.seq rfl ?_;refine xra Tryz.func23 1 rfl ?_;refine xp rfl (OpP.lenSlice Tryz.underlying76 rfl) ?_;refine xqd 1 [0,2,3,4,18] rfl ?_;refine G.ite rfl rfl (fun hz=>?_) (fun hz=>?_)
 · refine xrd Tryz.func23 2 [0,2,3,4,18] rfl ?_;refine G.ret Tryz.func23 rfl rfl ?_;have:res= .inl 1:=by rw[←hres,dmakeP,hl0,if_pos (by omega)]
   subst this;exact⟨_,rfl,rfl,e1⟩
 · have hres':res=match dmakeG ss 2002 0 [l0] [] [] with|none=>.inl 70|some d=>.inr d:=by rw[←hres,dmakeP,hl0,if_neg (by omega)]<;>rfl
   refine G.skip rfl ?_;refine xr Tryz.func23 rfl ?_;refine xp rfl (OpP.build (H.bd98_ ) rfl) ?_;refine xo rfl (OpX.boxN rfl) ?_;rintro _ h2 ⟨rfl,k2,e2,z2⟩;refine xqd 1 [0,2,3,4,5,18] rfl ?_;refine xr Tryz.func23 rfl ?_;refine xo rfl (OpX.makeMap (ek:=Value.string) (ev:=Value.int .i64)) ?_;rintro _ h3 ⟨rfl,hm3,e3,z3⟩;have k2:Blk h2 h1.size 98 [.slice none 0 0,.slice none 0 0]:=k2;have e13:=e2.trans e3;have hz1:=e1.size;refine xqm 1 rfl ?_;refine xo rfl (OpX.call (vs:=[_]) Tryz.func38 rfl H.nm38 rfl (CallsH.toX (key_calls ((htens.ext0 e1).ext0 e13) (SlR.ints (SlR.mv (OwE.read (O:=fun _=>False) (h1:=fun _=>rfl) ho1 (fun _ _ k=>k)) (Mv.ext0 e13))) hi0.1 hi0.2))) ?_;rintro _ h4 ⟨rfl,e4⟩;have hm4:=hm3.ext e4 (fun k=>k);have z4:=e4.size;refine RW.op0 rfl rfl rfl (OpX.insert (v:=(0:Int)) KeyE.str Tryz.underlying100 Tryz.underlying9 rfl rfl rfl rfl rfl hm4 (rfl:asc (bs (keyP (l0.map Int.ofNat))) []=none)) ?_;rintro _ h5 ⟨rfl,hm5,x5,z5⟩;have hm5:MapH Value.string (Value.int .i64) h5 h2.size (seenL 0 [l0]):=hm5;have e05:Ext0 h h5:=Ext0.only ((e1.trans e13).trans e4) x5 (by omega);have ho5:OwE encN h5 h.size 3 (.slice wa l0.length wc) l0:=OwnH.ext x5 (OwE.ext0 (OwE.ext0 ho1 e13) e4) (fun b hb (e:b=h2.size)=>by have:=(OwnH.lt ho1 hb).2;omega);have k5:Blk h5 h1.size 98 [.slice none 0 0,.slice none 0 0]:=((k2.ext0 e3).ext0 e4).ext x5 (by show ¬_=_;omega);refine xqd 2 [0,2,3,4,5,6,18] rfl ?_;refine xra Tryz.func23 1 rfl ?_;refine xo rfl (OpX.buildOnes (us:=[_]) Tryz.underlying101 H.el76 rfl rfl (by decide) (by simp[Value.oneCell'])) ?_;rintro _ _ ⟨rfl,rfl⟩;refine xqd 1 [0,2,3,4,5,6,7,18] rfl ?_;refine G.seq rfl ?_;refine xrd Tryz.func23 1 [0,2,3,4,5,6,7,8,18] rfl ?_;refine G.block rfl rfl ?_;have e56:Ext0 h5 (h5.push (.cells #[.slice wa l0.length wc] 76)):=Ext.push _ _ _
   have ls6:OwX eLst (fun b=>¬but (Value.slice wa l0.length wc).ownBlock b) (h5.push (.cells #[.slice wa l0.length wc] 76)) h.size 76 (.slice (some ⟨h5.size,0,none⟩) 1 1) [l0] :=
    OwX.made1 (e:=eLst) (cs:=[.slice wa l0.length wc]) ⟨_,rfl,OwnH.shut2 (h1:=fun _=>rfl) ho5 (fun b hb k=>k hb.symm)⟩ e05.size
   generalize h5.push (.cells #[.slice wa l0.length wc] 76)=h6 at *
   have mk6:MkAt h h6 (but (Value.slice wa l0.length wc).ownBlock) h1.size h2.size (.slice (some ⟨h5.size,0,none⟩) 1 1) (.slice none 0 0) (.slice none 0 0) [l0] [] [] :=
    ⟨e05.trans e56,k5.ext0 e56,OwR.nil _ _ _ _ _,OwE.nil _ _ _ _,hm5.ext e56 (fun k=>k),ls6,fun b hb=>TyAt.ext (OwnH.ty ho5 hb.symm) e56 (fun k=>k),fun b hb=>(by cases hb),hz1,by omega⟩
   refine G.loop (σ:=Nat×Value) (fun q=>[(0,.pointer (some ⟨nb,0,none⟩)),(5,.pointer (some ⟨h1.size,0,none⟩)),(6,.map (some h2.size)),(7,q.2),(8,.int .i64 (q.1:Nat))]) (fun q h'=>∃C vn vr lists next rule,MkAt h h' C h1.size h2.size q.2 vn vr lists next rule∧q.1≤lists.length∧lists.length≤2000∧(next.length=q.1∧rule.length=q.1)∧(∀l∈lists,l.Sublist (List.range ss.length))∧res=(match dmakeG ss (2002-q.1) q.1 lists next rule with|none=>.inl 70|some d=>.inr d)) (fun q=>2002-q.1) ((0,.slice (some ⟨h5.size,0,none⟩) 1 1)) rfl ⟨rfl,rfl,rfl,rfl,rfl,trivial⟩ ⟨_,_,_,[l0],[],[],mk6,Nat.zero_le _,by simp,⟨rfl,rfl⟩,fun l hl=>by simp at hl;subst hl;exact hsub0,hres'⟩ ?_;rintro⟨i,vl⟩ g ⟨C,vn,vr,lists,next,rule,mk,hi,hl2,⟨hnl,hrl⟩,hsl,hcon⟩ ih
   try dsimp only
   dsimp only at mk hi hnl hrl hcon;obtain⟨css,hc1,hc2,hc3⟩:=id mk.ls;obtain⟨la,lc,rfl,_⟩:=hc2.open;have hng:NfaAt g O nb v ss st:=hn.ext0 mk.ext (fun _ _ k=>k);have mkg:=mk;refine G.seq rfl ?_;refine xra Tryz.func23 2 rfl ?_;refine xp rfl (OpP.lenSlice Tryz.underlying101 rfl) ?_;refine xqd 1 [0,5,6,7,8,30] rfl ?_;refine G.ite rfl rfl (fun hlt=>?_) (fun hlt=>?_)
   · have hil:i<lists.length:=by omega
     obtain⟨cur,hcur⟩:∃cur,lists[i]? =some cur:=⟨_,List.getElem?_eq_getElem hil⟩
     have hcsub:=hsl cur (List.mem_of_getElem? hcur);obtain⟨n,hnn⟩:∃n,2002-i=n+1:=⟨2001-i,by omega⟩
     rw[hnn,dmakeG,hcur] at hcon;simp only at hcon;generalize hrow:rowG ss cur 256 0 lists []=tgt at hcon;refine G.skip rfl ?_;refine G.seq rfl ?_;refine G.block rfl rfl ?_;refine xr Tryz.func23 rfl ?_;refine xo rfl (OpX.allocN H.zr102) ?_;rintro _ g1 ⟨rfl,kz,ez,zz⟩;have kz:Blk g1 g.size 102 (([]:List Int).map (Value.int .i64)++List.replicate (256-0) (Value.int .i64 0)):=kz;have mk1:=mk.ext0 ez;have hvz:vn.ownBlock≠some g.size:=fun e=>by have:=(mk.nty _ e).lt;omega
     refine xd [0,5,6,7,8,9,30] rfl ?_;refine G.seq rfl ?_;refine xrd Tryz.func23 1 [0,5,6,7,8,9,30,33] rfl ?_;refine G.block rfl rfl ?_;refine G.loop (σ:=Nat×Value) (fun q=>[(0,.pointer (some ⟨nb,0,none⟩)),(5,.pointer (some ⟨h1.size,0,none⟩)),(6,.map (some h2.size)),(7,q.2),(8,.int .i64 (i:Nat)),(9,.pointer (some ⟨g.size,0,none⟩)),(33,.int .i64 (q.1:Nat))]) (fun q h'=>∃C lists' row,MkAt h h' C h1.size h2.size q.2 vn vr lists' next rule∧(q.1≤256∧row.length=q.1∧lists'.length≤2000+q.1)∧Blk h' g.size 102 (row.map (Value.int .i64)++List.replicate (256-q.1) (Value.int .i64 0))∧lists'[i]? =some cur∧(∀l∈lists',l.Sublist (List.range ss.length))∧rowG ss cur (256-q.1) q.1 lists' row=tgt) (fun q=>256-q.1) ((0,.slice la lists.length lc)) rfl ⟨rfl,rfl,rfl,rfl,rfl,rfl,rfl,trivial⟩ ⟨C,lists,[],mk1,⟨Nat.zero_le _,rfl,by simp;omega⟩,kz,hcur,hsl,hrow⟩ ?_;rintro⟨b,vl⟩ g2 ⟨C,lists,row,mk,⟨hb,hrlen,hlb⟩,kz,hcur,hsl,hrow⟩ ih2
     try dsimp only
     dsimp only at mk hb hrlen hlb kz hrow;have hng:NfaAt g2 O nb v ss st:=hn.ext0 mk.ext (fun _ _ k=>k);refine xrd Tryz.func23 1 [0,5,6,7,8,9,33,34] rfl ?_;refine G.seq rfl ?_;refine G.ite rfl rfl (fun hb256=>?_) (fun hb256=>?_)
     · obtain⟨m,hm⟩:∃m,256-b=m+1:=⟨255-b,by omega⟩
       rw[hm,rowG] at hrow;obtain⟨g',c',cs,hv',_,_,hrowv,_,⟨w,rfl,hw⟩,_⟩:=mk.ls.put hcur;subst hv';have hnlt:∀j∈cur,j<ss.length:=fun j hj=>List.mem_range.1 (hcsub.subset hj)
       have hcl:=hcsub.length_le;rw[List.length_range] at hcl;have hub:(UInt8.ofNat b).toNat=b:=by simp;omega
       have hwr:SlR eNat g2 (fun _=>False) w cur:=SlR.less hw (fun _ k=>k.elim);have hstep:=step_calls (UInt8.ofNat b) hng hgood (by omega) hwr hnlt (by omega) (hpot _ _ hcsub);rw[hub] at hstep;have hlsub:=stepP_sub ss (UInt8.ofNat b) cur;refine G.skip rfl ?_;refine G.seq rfl ?_;refine G.block rfl rfl ?_;refine xrd Tryz.func23 2 [0,5,6,7,8,9,10,33,34] rfl ?_;refine xra Tryz.func23 3 rfl ?_;refine xp rfl (OpP.indexSlice Tryz.underlying101 H.sz76 rfl rfl i rfl rfl (by have:=(List.getElem?_eq_some_iff.1 hcur).1;omega)) ?_;refine xp rfl (OpP.load H.ag76 rfl (hrowv 0 _ rfl)) ?_;refine xqp 1 rfl rfl (OpP.convIn Tryz.underlying3 Tryz.underlying5 rfl (wrap_u8 ⟨by omega,by omega⟩)) ?_;refine xo rfl (OpX.call (vs:=[_,_,_]) Tryz.func39 rfl H.nm39 rfl (CallsH.toX (hstep))) ?_;rintro w11 g3 ⟨ho3,e3⟩;generalize hl:stepP ss (UInt8.ofNat b) cur=l at *;have hsN:rowStep ss cur lists b=if l.length=0 then (lists,-1) else match findL 0 lists l with|some i=>(lists,(i:Int))|none=>(lists++[l],(lists.length:Int)):=by unfold rowStep;rw[hl]<;>rfl
       have hil:=hint l hlsub;obtain⟨l11a,l11c,rfl,_⟩:=(show OwnH g3 g2.size 3 1 w11 l.length (l.map encN) from ho3).open;have mk3:=mk.ext0 e3;have kz3:=kz.ext0 e3;have hkey:∀{gg:Heap},Ext0 g3 gg→CallsH Tryz.prog 38 #[.slice l11a l.length l11c] gg (Ret fun r h'=>r= .string (bs (keyN l))∧Ext0 gg h'):=fun e=>key_calls (htens.ext0 (mk3.ext.trans e)) (SlR.ints (SlR.mv (OwE.read (O:=fun _=>False) (h1:=fun _=>rfl) ho3 (fun _ _ k=>k)) (Mv.ext0 e))) hil.1 hil.2
       refine xqd 1 [0,5,6,7,8,9,10,11,33,34] rfl ?_;refine xra Tryz.func23 2 rfl ?_;refine xo rfl (OpX.call (vs:=[_]) Tryz.func38 rfl H.nm38 rfl (CallsH.toX (hkey (Ext.refl _ _)))) ?_;rintro _ g4 ⟨rfl,e4⟩;have mk4:=mk3.ext0 e4;have kz4:=kz3.ext0 e4;refine xp rfl (OpP.lookupOk (z:=.int .i64 0) KeyE.str Tryz.underlying100 Tryz.underlying9 (by kernel_rfl) rfl rfl rfl mk4.mp) ?_;rw[asc_seen];refine xqd 5 [0,5,6,7,8,9,10,11,12,13,33,34] rfl ?_;refine G.seq rfl ?_;refine G.block rfl rfl ?_;refine xra Tryz.func23 1 rfl ?_;refine xp rfl (OpP.lenSlice Tryz.underlying76 rfl) ?_;refine xqd 2 [0,5,6,7,8,9,10,11,12,13,33,34,51] rfl ?_
       have fin:∀(to:Int) (vl2:Value) (h':Heap) (ρ':Env),Sub [(0,.pointer (some ⟨nb,0,none⟩)),(5,.pointer (some ⟨h1.size,0,none⟩)),(6,.map (some h2.size)),(7,vl2),(8,.int .i64 (i:Nat)),(9,.pointer (some ⟨g.size,0,none⟩)),(10,.int .i64 (b:Nat)),(12,.int .i64 to),(33,.int .i64 (b:Nat))] ρ'→(∃C2,MkAt h h' C2 h1.size h2.size vl2 vn vr (rowStep ss cur lists b).1 next rule)→to=(rowStep ss cur lists b).2→Blk h' g.size 102 (row.map (Value.int .i64)++List.replicate (256-b) (Value.int .i64 0))→G Tryz.prog 23 Tryz.f23 [.code [1,1,1,1,0,0,1,1,0,0,1,0,1,0,0,1,0,0,1,0,1,1,1,1,1,1],.blk 3,.code [1,1,1,0,0,1,0,1,0,0,1,0,0,1,0,1,1,1,1,1,1],.loop [0,0,1,0,1,0,0,1,0,0,1,0,1,1,1,1,1,1],.blk 2,.code [1,1,0,0,1,0,0,1,0,1,1,1,1,1,1],.blk 1,.code [1,1,0,0,1,0,1,1,1,1,1,1],.loop [0,0,1,0,1,1,1,1,1,1],.blk 0,.code [1,1,1,1,1,1,1]] ρ' h' (Ret fun r h'=>MakeRes res h' r∧Ext0 h h'):=by
        rintro to vl2 g5 ρ' hsub ⟨C2,mk5⟩ hto kz5;refine G.sub (ρ':=[(0,.pointer (some ⟨nb,0,none⟩)),(5,.pointer (some ⟨h1.size,0,none⟩)),(6,.map (some h2.size)),(7,vl2),(8,.int .i64 (i:Nat)),(9,.pointer (some ⟨g.size,0,none⟩)),(10,.int .i64 (b:Nat)),(12,.int .i64 to),(33,.int .i64 (b:Nat))]) hsub ?_
        have hrs:(rowStep ss cur lists b).1.length≤lists.length+1∧(rowStep ss cur lists b).1[i]? =some cur∧∀x∈(rowStep ss cur lists b).1,x.Sublist (List.range ss.length):=by
         rw[hsN];split
         · exact⟨Nat.le_succ _,hcur,hsl⟩
         · split
           · exact⟨Nat.le_succ _,hcur,hsl⟩
           · refine⟨by simp,by rw[List.getElem?_append_left (List.getElem?_eq_some_iff.1 hcur).1];exact hcur,fun x hx=>?_⟩
             rcases List.mem_append.1 hx with k|k
             · exact hsl x k
             · have:x=l:=by simpa using k
               rw[this];exact hlsub
        have hcells:(row.map (Value.int .i64)++List.replicate (256-b) (Value.int .i64 0)).length=256:=by simp[hrlen];omega
        have hset:(row.map (Value.int .i64)++List.replicate (256-b) (Value.int .i64 0)).set (0+b*1) (.int .i64 to)=(row++[to]).map (Value.int .i64)++List.replicate (256-(b+1)) (Value.int .i64 0):=by
         rw[Nat.zero_add,Nat.mul_one,List.set_append_right _ _ (by simp;omega),show 256-b=(256-(b+1))+1 by omega,List.replicate_succ];have:b-(row.map (Value.int .i64)).length=0:=by simp;omega
         rw[this,List.set_cons_zero];simp
        have hblt:0+b*1<(row.map (Value.int .i64)++List.replicate (256-b) (Value.int .i64 0)).length:=by rw[hcells];omega
        refine G.reg Tryz.func23 rfl ?_;refine xqp 2 rfl rfl (OpP.indexArr Tryz.underlying102 H.sz3 rfl rfl b rfl (by omega)) ?_;refine RW.op0 rfl rfl rfl (OpX.store H.sz3 rfl rfl rfl (kz5.cell (List.getElem?_eq_getElem hblt)) kz5.nf) ?_;rintro _ g6 ⟨rfl,hg6⟩;have k6:=kz5.set (0+b*1) (.int .i64 to);rw[←hg6,hset] at k6;have x6:Ext (fun y=>y=g.size) g5 g6:=by rw[hg6];exact Ext.setC _ _ _ rfl
        have hzge:h.size≤g.size:=mkg.ext.size;have mk6:=mk5.put x6 kz5.ty hvz hzge;refine xd [0,5,6,7,8,9,10,12,33] rfl ?_;refine G.blkEnd ?_;refine G.reg Tryz.func23 rfl ?_;refine xp rfl (OpP.add64 rfl rfl ⟨by omega,by omega⟩) ?_;refine xqd 1 [0,5,6,7,8,9,10,12,33] rfl ?_;exact ih2 (b+1,vl2) _ _ ⟨rfl,rfl,rfl,rfl,rfl,rfl,rfl,trivial⟩ ⟨C2,_,row++[to],mk6,⟨by show b+1≤256;omega,by simp[hrlen],by show _≤2000+(b+1);omega⟩,k6,hrs.2.1,hrs.2.2,by show rowG ss cur (256-(b+1)) (b+1) _ _=tgt;rw[show 256-(b+1)=m by omega,hto];exact hrow⟩ (by show 256-(b+1)<256-b;omega)
       refine G.ite rfl rfl (fun hz11=>?_) (fun hz11=>?_)
       · have hl0':l.length=0:=by omega
         refine G.reg Tryz.func23 rfl ?_;refine xqd 1 [0,5,6,7,8,9,10,11,12,13,33,34,51] rfl ?_;refine G.blkEnd ?_;exact fin (-1) _ _ _ ⟨rfl,rfl,rfl,rfl,rfl,rfl,rfl,rfl,rfl,trivial⟩ (by rw[hsN,if_pos hl0'];exact⟨C,mk4⟩) (by rw[hsN,if_pos hl0']) kz4
       · have hl0':¬l.length=0:=by omega
         rcases hfind:findL 0 lists l with _|j
         · refine xrd Tryz.func23 3 [0,5,6,7,8,9,10,11,12,13,33,34,51,55] rfl ?_;refine G.cond rfl rfl (fun _=>?_) (fun hc=>absurd hc (by simp));refine xra Tryz.func23 1 rfl ?_;refine xp rfl (OpP.lenSlice Tryz.underlying101 rfl) ?_;refine xqd 1 [0,5,6,7,8,9,10,11,12,13,33,34,51,55] rfl ?_;refine xra Tryz.func23 2 rfl ?_;refine xo rfl (OpX.call (vs:=[_]) Tryz.func38 rfl H.nm38 rfl (CallsH.toX (hkey e4))) ?_;rintro _ g5 ⟨rfl,e5⟩;have mk5:=mk4.ext0 e5;have hnone:asc (bs (keyN l)) (seenL 0 lists)=none:=by rw[asc_seen,hfind];rfl
           refine xqm 1 rfl ?_;refine RW.op0 rfl rfl rfl (OpX.mapUpdate (v:=(lists.length:Int)) KeyE.str Tryz.underlying100 Tryz.underlying9 rfl rfl rfl rfl rfl mk5.mp hnone) ?_;rintro _ g6 ⟨rfl,hm6,x6,z6⟩;have hm6:MapH Value.string (Value.int .i64) g6 h2.size (seenL 0 (lists++[l])):=by rw[seen_snoc,Nat.zero_add];exact hm6
           have mapne:∀{b:Nat}{t:TypeId},TyAt g5 b t→¬b=h2.size:=fun k e=>mk5.mp.ne k e.symm
           have e35:=e4.trans e5;have ho5w:OwE encN g5 g2.size 3 (.slice l11a l.length l11c) l:=OwE.ext0 ho3 e35;have kz5:=kz4.ext0 e5;have kz6:=kz5.ext x6 (mapne kz5.ty);have d6:=mk5.dblk.ext x6 (mapne mk5.dblk.ty);have nx6:=OwnH.ext x6 mk5.nx (fun b hb=>mapne (mk5.nty b hb));have ru6:=OwnH.ext x6 mk5.ru (fun b hb=>mapne (mk5.rty b hb));have ho6w:OwE encN g6 g2.size 3 (.slice l11a l.length l11c) l:=OwnH.ext x6 ho5w (fun b hb=>mapne (OwnH.ty ho5w hb))
           have ls6:OwX eLst (fun b=>¬(C b∨but (Value.slice l11a l.length l11c).ownBlock b)) g6 h.size 76 (.slice (some ⟨g',0,none⟩) lists.length c') lists :=
            mk5.ls.mv2 x6 (fun b hb=>mapne (mk5.lty b hb)) (fun b _ hb hC=>mapne (mk5.cty b hC) hb) (fun b _ hb hC=>hb (.inl hC))
           have lty6:TyAt g6 g' 76:=(mk5.lty g' rfl).ext x6 (mapne (mk5.lty g' rfl));obtain⟨css,hc1,hc2,hc3⟩:=id ls6;have hz5:=mk5.ext.size;have hz2g:=mk.ext.size;refine xd [0,5,6,7,8,9,10,11,12,13,33,34,51,55] rfl ?_;refine G.reg Tryz.func23 rfl ?_;refine xqm 2 rfl ?_;refine xo rfl (OpX.buildOnes (us:=[_]) Tryz.underlying101 H.el76 rfl rfl (by decide) (by simp[Value.oneCell'])) ?_;rintro _ _ ⟨rfl,rfl⟩;refine xo rfl (OpX.appendNew Tryz.underlying101 H.el76 rfl rfl (hc2) rfl rfl (by first|decide|simp[Value.oneCell']) (by omega) (by decide) (by omega)) ?_;rintro v7 g7 ⟨ho7,hx7,hx7',hv7⟩
           have lne:∀{b:Nat}{t:TypeId},TyAt g6 b t→76≠t→¬but (Value.slice (some ⟨g',0,none⟩) lists.length c').ownBlock b:=fun k ht e=>by
            simp only[but,Value.ownBlock,Option.some.injEq] at e;subst e;exact lty6.ne k ht rfl
           have hsz3:=e3.size;have hsz35:=e35.size;have ty6:∀{b:Nat}{t:TypeId},TyAt g5 b t→TyAt g6 b t:=fun k=>k.ext x6 (mapne k)
           have hls7:OwX eLst (fun b=>¬(C b∨but (Value.slice l11a l.length l11c).ownBlock b)) g7 h.size 76 v7 (lists++[l]) :=
            OwX.pushed (h:=g6) (v:=.slice (some ⟨g',0,none⟩) lists.length c') (css:=css) (cs:=[.slice l11a l.length l11c]) hc1 hc3 ho7 hx7 hv7 ⟨_,rfl,OwnH.shut2 (h1:=fun _=>rfl) ho6w (fun b hb k=>by
             rcases k with k|k
             · exact lne (OwnH.ty ho6w hb) (by decide) k
             · exact k (.inr hb.symm))⟩
           have hmb6:¬but (Value.slice (some ⟨g',0,none⟩) lists.length c').ownBlock h2.size:=fun e=>by
            simp only[but,Value.ownBlock,Option.some.injEq] at e;exact hm6.ne (e▸lty6) rfl
           have hext7:Ext0 h g7:=⟨by have:=hx7.size;omega,fun b hb k=>by
            rw[hx7.block b (by omega) (fun e=>by
             simp only[but,Value.ownBlock,Option.some.injEq] at e;have:=mk5.lge g' rfl;omega),x6.block b (by omega) (by have:=mk5.mge;omega)]
            exact mk5.ext.block b hb k⟩
           have mk7:MkAt h g7 (fun b=>C b∨but (Value.slice l11a l.length l11c).ownBlock b) h1.size h2.size v7 vn vr (lists++[l]) next rule :=
            ⟨hext7,d6.ext hx7 (lne d6.ty (by decide)),OwnH.ext hx7 nx6 (fun b hb=>lne (OwnH.ty nx6 hb) (by decide)),OwnH.ext hx7 ru6 (fun b hb=>lne (OwnH.ty ru6 hb) (by decide)),hm6.ext hx7 hmb6,hls7,
             fun b hb=>by
              rcases hb with hb|hb
              · exact TyAt.ext (ty6 (mk5.cty b hb)) hx7 (lne (ty6 (mk5.cty b hb)) (by decide))
              · exact TyAt.ext (OwnH.ty ho6w hb.symm) hx7 (lne (OwnH.ty ho6w hb.symm) (by decide)),
             fun b hb hC=>by
              rcases hC with hC|hC
              · exact mk5.cr b hb hC
              · have h1':=(mk.rty b hb).lt;have h2':=(OwnH.lt ho6w hC.symm).1;omega,mk5.dge,mk5.mge⟩
           obtain⟨v7a,v7c,rfl,_⟩:=ho7.open;refine xqd 1 [0,5,6,7,8,9,10,11,12,13,33,34,51,55] rfl ?_;refine G.blkEnd ?_;exact fin (lists.length:Int) _ _ _ ⟨rfl,rfl,rfl,rfl,rfl,rfl,rfl,rfl,rfl,trivial⟩ (by rw[hsN,if_neg hl0',hfind];exact⟨_,mk7⟩) (by rw[hsN,if_neg hl0',hfind]) (kz6.ext hx7 (lne kz6.ty (by decide)))
         · have hj:=findL_some lists 0 j l hfind;refine xrd Tryz.func23 3 [0,5,6,7,8,9,10,11,12,13,33,34,51,55] rfl ?_;refine G.cond rfl rfl (fun hc=>absurd hc (by simp)) (fun _=>?_);refine G.skip rfl ?_;refine G.blkEnd ?_;exact fin (j:Int) _ _ _ ⟨rfl,rfl,rfl,rfl,rfl,rfl,rfl,rfl,rfl,trivial⟩ (by rw[hsN,if_neg hl0',hfind];exact⟨C,mk4⟩) (by rw[hsN,if_neg hl0',hfind]) kz4
     · obtain rfl:b=256:=by omega
       rw[Nat.sub_self,rowG] at hrow;subst hrow;simp only at hcon;obtain⟨css2,hd1,hd2,hd3⟩:=id mk.ls;obtain⟨la2,lc2,rfl,_⟩:=hd2.open;have hencr:encRow (mkRow row)=row.map (Value.int .i64):=by rw[encRow,mkRow_v hrlen]
       rw[Nat.sub_self,List.replicate_zero,List.append_nil,←hencr] at kz;refine G.exit rfl rfl ?_;refine G.seq rfl ?_;refine xra Tryz.func23 1 rfl ?_;refine xp rfl (OpP.lenSlice Tryz.underlying101 rfl) ?_;refine xqd 1 [0,5,6,7,8,9,33,34,74] rfl ?_;refine G.ite rfl rfl (fun hbigl=>?_) (fun hbigl=>?_)
       · rw[if_pos (by omega)] at hcon;refine xrd Tryz.func23 2 [0,2,3,5,6,7,8,9,33,34,74] rfl ?_;refine G.ret Tryz.func23 rfl rfl ?_;exact⟨_,rfl,by rw[hcon];rfl,mk.ext⟩
       · rw[if_neg (by omega)] at hcon
         have nne:∀{b:Nat}{t:TypeId},TyAt g2 b t→102≠t→¬(but vn.ownBlock b∨Array.size g2≤b):=fun kt ht e=>by
          rcases e with e|e
          · exact(mk.nty _ e.symm).ne kt ht rfl
          · have:=kt.lt;omega
         have hzM:¬(but vn.ownBlock g.size∨Array.size g2≤g.size):=by
          rintro(e|e)
          · exact hvz e.symm
          · have:=kz.lt;omega
         have hdM:=nne mk.dblk.ty (by decide);have hnx:OwnH g2 h.size 102 256 vn next.length (next.flatMap encRow):=mk.nx
         have hone:∀u∈encRow (mkRow row),u.oneCell'=true:=fun u hu=>by simp[encRow] at hu;obtain⟨_,_,rfl⟩:=hu;rfl
         have hg2:=mk.ext.size;refine G.skip rfl ?_;refine G.seq rfl ?_;refine G.draw (fun b=>but vn.ownBlock b∨Array.size g2≤b) (fun i=>Nat.blt i 10) (sz:=11) (listed:= #[false,false,false,false,false,false,false,false,false,false,false]) Tryz.func23 H.mixed rfl rfl rfl ?_;refine xtq 0 1 (by kernel_rfl) rfl ?_;refine xtq 1 3 (by kernel_rfl) rfl ?_;refine xtq 2 7 (by kernel_rfl) rfl ?_;refine xtp 3 15 (by kernel_rfl) rfl (fun h' e=>OpP.fieldAddr (off:=0) Tryz.underlying98 rfl rfl H.sz96 rfl) ?_;refine xtp 4 31 (by kernel_rfl) rfl (fun h' e=>OpP.load H.ag96 rfl (e.cell hdM (mk.dblk.cell (i:=0) rfl))) ?_;refine xtp 5 63 (by kernel_rfl) rfl (fun h' e=>OpP.loadRowN H.ag102 H.sz102 rfl (e.rowAt hzM kz.row) (by first|rfl|(simp;done)|(simp;omega))) ?_;refine xto 6 127 (by kernel_rfl) rfl (OpX.buildRec (cs:=encRow (mkRow row)) Tryz.underlying96 H.el102 rfl (encRow_len _) (by decide)) ?_;rintro _ _ ⟨rfl,rfl⟩;refine⟨fun _=>(Ext.push _ _ _),?_⟩;refine xto 7 255 (by kernel_rfl) rfl (OpX.appendBig Tryz.underlying96 H.el102 rfl rfl hnx rfl (by simp) hone (by simp only[maxLen];omega) (by omega) hg2) ?_;rintro v3 g3 ⟨ho3,hx3,hx3',hv3⟩;refine⟨fun _=>hx3'.mono (fun _ _ k=>.inl k),?_⟩;obtain⟨a3,c3,rfl,_⟩:=ho3.open;refine xto 8 511 (by kernel_rfl) rfl (OpP.toX (OpP.nilCheck rfl)) ?_;rintro _ hq_ ⟨rfl,hqe_⟩;replace hqe_:=hqe_.symm;subst hqe_;refine⟨fun _=>Ext.refl _ _,?_⟩;refine xtp 9 1023 (by kernel_rfl) rfl (fun h' e=>OpP.fieldAddr (off:=0) Tryz.underlying98 rfl rfl H.sz96 rfl) ?_;refine xt0 10 2047 (by kernel_rfl) rfl (OpX.storeOne H.sz96 rfl rfl (mk.dblk.ext hx3 (fun e=>hdM (.inl e))) (by first|decide|exact of_decide_eq_true rfl|(simp;done)|(simp;omega)) rfl) ?_;rintro _ g4 ⟨rfl,k4,x4,z4⟩;refine⟨fun hk=>(nomatch hk),?_⟩;have mk4:=mk.setN (r:=mkRow row) rfl ho3 hx3 k4 x4;obtain⟨g',c',cs,hv',_,_,hrowv,_,⟨w,rfl,hw⟩,_⟩:=mk4.ls.put hcur;cases hv';have hng4:NfaAt g4 O nb v ss st:=hn.ext0 mk4.ext (fun _ _ k=>k);have hwr:SlR eNat g4 (fun _=>False) w cur:=SlR.less hw (fun _ k=>k.elim);have hnlt:∀j∈cur,j<ss.length:=fun j hj=>List.mem_range.1 (hcsub.subset hj)
         have hcl:=hcsub.length_le;rw[List.length_range] at hcl
         have rne:∀{b:Nat}{t:TypeId},TyAt g4 b t→3≠t→¬(but vr.ownBlock b∨Array.size g4≤b):=fun kt ht e=>by
          rcases e with e|e
          · exact(mk4.rty _ e.symm).ne kt ht rfl
          · have:=kt.lt;omega
         have hdM4:=rne mk4.dblk.ty (by decide);have hlM4:=rne (mk4.lty g' rfl) (by decide);have hru:OwnH g4 h.size 3 1 vr rule.length (rule.map (Value.int .i64)):=mk4.ru;have hg4s:=mk4.ext.size;have hli:i<lists.length:=(List.getElem?_eq_some_iff.1 hcur).1;refine RD.done (by kernel_rfl) ?_;refine xu [0,5,6,7,8,9,33,34,74] rfl ?_;refine G.draw (fun b=>but vr.ownBlock b∨Array.size g4≤b) (fun i=>Nat.blt i 15) (sz:=16) (listed:= #[false,false,false,false,false,false,false,false,false,false,false,false,false,false,false,false]) Tryz.func23 H.mixed rfl rfl rfl ?_;refine xtq 0 1 (by kernel_rfl) rfl ?_;refine xtq 1 3 (by kernel_rfl) rfl ?_;refine xtq 2 7 (by kernel_rfl) rfl ?_;refine xtp 3 15 (by kernel_rfl) rfl (fun h' e=>OpP.fieldAddr (off:=1) Tryz.underlying98 rfl rfl H.sz76 rfl) ?_;refine xtp 4 31 (by kernel_rfl) rfl (fun h' e=>OpP.load H.ag76 rfl (e.cell hdM4 (mk4.dblk.cell (i:=1) rfl))) ?_;refine xtq 5 63 (by kernel_rfl) rfl ?_;refine xtq 6 127 (by kernel_rfl) rfl ?_;refine xtq 7 255 (by kernel_rfl) rfl ?_;refine xtp 8 511 (by kernel_rfl) rfl (fun h' e=>OpP.indexSlice Tryz.underlying101 H.sz76 rfl rfl i rfl rfl (by omega)) ?_;refine xtp 9 1023 (by kernel_rfl) rfl (fun h' e=>OpP.load H.ag76 rfl (e.cell hlM4 (hrowv 0 _ rfl))) ?_;refine xto 10 2047 (by kernel_rfl) rfl (OpX.call (vs:=[_,_]) Tryz.func40 rfl H.nm40 rfl (CallsH.toX (accepts_calls hng4 (by omega) hwr hnlt (by omega)))) ?_;rintro _ g5 ⟨rfl,hg5⟩;refine⟨fun _=>by subst hg5;exact Ext.refl _ _,?_⟩;subst hg5;refine xto 11 4095 (by kernel_rfl) rfl (OpX.buildOnes (us:=[_]) Tryz.underlying76 H.el3 rfl rfl (by decide) (by simp[Value.oneCell'])) ?_;rintro _ _ ⟨rfl,rfl⟩;refine⟨fun _=>by first|exact Ext.push _ _ _|assumption,?_⟩;refine xto 12 8191 (by kernel_rfl) rfl (OpX.appendNew Tryz.underlying76 H.el3 rfl rfl (hru) rfl rfl (by first|decide|simp[Value.oneCell']) (by omega) (by decide) (by omega)) ?_;rintro v6 g6 ⟨ho6,hx6,hx6',hv6⟩;refine⟨fun _=>hx6'.mono (fun _ _ k=>.inl k),?_⟩;obtain⟨a6,c6,rfl,_⟩:=ho6.open;refine xto 13 16383 (by kernel_rfl) rfl (OpP.toX (OpP.nilCheck rfl)) ?_;rintro _ hq_ ⟨rfl,hqe_⟩;replace hqe_:=hqe_.symm;subst hqe_;refine⟨fun _=>Ext.refl _ _,?_⟩;refine xtp 14 32767 (by kernel_rfl) rfl (fun h' e=>OpP.fieldAddr (off:=1) Tryz.underlying98 rfl rfl H.sz76 rfl) ?_;refine xt0 15 65535 (by kernel_rfl) rfl (OpX.storeOne H.sz76 rfl rfl (mk4.dblk.ext hx6 (fun e=>hdM4 (.inl e))) (by first|decide|exact of_decide_eq_true rfl|(simp;done)|(simp;omega)) rfl) ?_;rintro _ g7 ⟨rfl,k7,x7,z7⟩;refine⟨fun hk=>(nomatch hk),?_⟩;have mk7:=mk4.setR (x:=acceptsP ss cur) rfl ho6 hx6 hv6 k7 x7;refine RD.done (by kernel_rfl) ?_;refine xu [0,5,6,7,8,9,33,34,74] rfl ?_;refine G.blkEnd ?_;refine G.reg Tryz.func23 rfl ?_;refine xqp 1 rfl rfl (OpP.add64 rfl rfl ⟨by omega,by omega⟩) ?_;refine xqd 1 [0,5,6,7,8,9,33,34,74] rfl ?_;exact ih (i+1,_) _ _ ⟨rfl,rfl,rfl,rfl,rfl,trivial⟩ ⟨C,_,_,lists,next++[mkRow row],rule++[acceptsP ss cur],mk7,by show i+1≤lists.length;omega,by omega,⟨by simp[hnl],by simp[hrl]⟩,hsl,by rw[hcon,show 2002-(i+1)=n by omega]⟩ (by show 2002-(i+1)<2002-i;omega)
   · have hie:i=lists.length:=by omega
     have hnone:lists[i]? =none:=List.getElem?_eq_none (by omega);obtain⟨n,hnn⟩:∃n,2002-i=n+1:=⟨2001-i,by omega⟩
     rw[hnn,dmakeG,hnone] at hcon;simp only at hcon;refine G.exit rfl rfl ?_;refine xrd Tryz.func23 3 [0,2,3,5,6,7,8,30] rfl ?_;refine G.ret Tryz.func23 rfl rfl ?_;refine⟨_,rfl,?_,mk.ext⟩;rw[hcon];exact⟨h1.size,rfl,vn,vr,mk.dblk,OwR.read mk.nx (fun _ _ k=>k),OwE.read (h1:=fun _=>rfl) mk.ru (fun _ _ k=>k)⟩
end Go.Proofs.YtfegacfjgjaghaaGreatDoor
namespace Go.Proofs.YtfegacfjgjaghaaGreatDoor
open Go
def Tab.row (d:Tab) (k:Nat):List Int:=match d.next[k]? with|some r=>r.v|none=>[]
def liveTo (out:List Bool) (t:Int):Bool:=decide (0≤t) && out.getD t.toNat false
def liveAt (d:Tab) (out:List Bool) (k:Nat):Bool:=decide (0≤d.ru k) ||(d.row k).any (liveTo out)
def livePass (d:Tab):Nat→Nat→List Bool→Bool→List Bool×Bool
 | 0,_,out,ag=>(out,ag)
 |n+1,k,out,ag=>if out.getD k false=true then livePass d n (k+1) out ag else livePass d n (k+1) (out.set k (liveAt d out k)) (ag ||liveAt d out k)
def falses (out:List Bool):Nat:=(out.filter fun b=> !b).length
def liveG (d:Tab):Nat→List Bool→List Bool
 | 0,out=>out
 |n+1,out=>if (livePass d d.next.length 0 out false).2=true then liveG d n (livePass d d.next.length 0 out false).1 else (livePass d d.next.length 0 out false).1
def liveP (d:Tab):List Bool:=liveG d (d.next.length+1) (List.replicate d.next.length false)
theorem falses_set:∀(out:List Bool) (k:Nat) (b:Bool),out[k]? =some false→falses (out.set k b)+(if b then 1 else 0)=falses out
 | [],k,b,h=>by simp at h
 |x::r,0,b,h=>by simp at h;subst h;cases b<;>simp[falses]
 |x::r,k+1,b,h=>by
  have:=falses_set r k b (by simpa using h);unfold falses at this ⊢;rw[List.set_cons_succ];cases x<;>simp at this ⊢ <;>omega
theorem livePass_len (d:Tab):∀(n k:Nat) (out:List Bool) (ag:Bool),(livePass d n k out ag).1.length=out.length
 | 0,_,_,_=>rfl
 |n+1,k,out,ag=>by
  rw[livePass];split
  · exact livePass_len d n _ _ _
  · rw[livePass_len d n];simp
theorem livePass_less (d:Tab):∀(n k:Nat) (out:List Bool) (ag:Bool),k+n≤out.length→falses (livePass d n k out ag).1≤falses out∧((livePass d n k out ag).2=true→ag=true∨falses (livePass d n k out ag).1<falses out)
 | 0,_,out,ag,_=>⟨Nat.le_refl _,fun h=>.inl h⟩
 |n+1,k,out,ag,hk=>by
  rw[livePass];split
  · exact livePass_less d n (k+1) out ag (by omega)
  · rename_i h
    have hf:out[k]? =some false:=by
     rw[List.getD_eq_getElem?_getD,List.getElem?_eq_getElem (by omega)] at h;rw[List.getElem?_eq_getElem (by omega)];simpa using h
    have h1:=falses_set out k (liveAt d out k) hf;have h2:=livePass_less d n (k+1) (out.set k (liveAt d out k)) (ag ||liveAt d out k) (by simp;omega);refine⟨by omega,fun ht=>?_⟩
    rcases h2.2 ht with h3|h3
    · cases hb:liveAt d out k with
      |true=>rw[hb,if_pos rfl] at h1;right;rw[hb] at h2;omega
      |false=>rw[hb,Bool.or_false] at h3;exact .inl h3
    · right;omega
end Go.Proofs.YtfegacfjgjaghaaGreatDoor
namespace Go.Proofs.YtfegacfjgjaghaaGreatDoor
open Go Go.Lw
set_option maxRecDepth 20000
theorem over_row (r:Row):over (List.replicate 256 (Value.int .i64 0)) 0 (encRow r)=encRow r:=by
 unfold over;rw[List.take_zero,List.nil_append,encRow_len,List.drop_of_length_le (by simp),List.append_nil]
theorem live_calls {h:Heap}{db:Nat}{d:Tab}(k:TabRd h db d) (hok:d.Ok) :
 CallsH Tryz.prog 42 #[.pointer (some ⟨db,0,none⟩)] h (Ret fun r h'=>OwE Value.bool h' h.size 4 r (liveP d)∧Ext0 h h'):=by
 obtain⟨vn,vr,hk,⟨na,nn,nc,rfl,hnl,hnc,hnm,hgetn⟩,⟨ra,rn,rc,rfl,hrl,hrc,hrm,hgetr⟩⟩:=k;have hlen:=hok.len;have hsize:=hok.size;have hslN:SlR eRowD h (fun _=>False) (.slice na nn nc) d.next:=⟨_,_,_,rfl,hnl,hnc,hnm,hgetn⟩
 have hslR:SlR (.int .i64) h (fun _=>False) (.slice ra rn rc) d.rule:=⟨_,_,_,rfl,hrl,hrc,hrm,hgetr⟩
 subst hnl;generalize htgt:liveP d=tgt;refine CallsH.of Tryz.func42 rfl rfl ?_;refine xrd Tryz.func42 1 [0,2] rfl ?_;refine xra Tryz.func42 2 rfl ?_;refine xp rfl (OpP.fieldAddr (off:=0) Tryz.underlying98 rfl rfl H.sz96 rfl) ?_;refine xp rfl (OpP.load H.ag96 rfl (hk.cell (i:=0) rfl)) ?_;refine xp rfl (OpP.lenSlice Tryz.underlying96 rfl) ?_;refine xo rfl (OpX.makeOnes Tryz.underlying106 H.el4 H.zr4 rfl rfl rfl (by omega) (by decide)) ?_;rintro _ h1 ⟨rfl,k1,e1⟩;have k1:OwE Value.bool h1 h.size 4 (.slice (some ⟨h.size,0,none⟩) d.next.length d.next.length) (List.replicate d.next.length false):=by unfold OwE;simpa using k1
 have hf0:falses (List.replicate d.next.length false)≤d.next.length:=by unfold falses;exact Nat.le_trans (List.length_filter_le _ _) (by simp)
 refine xqd 1 [0,2,3] rfl ?_;refine G.seq rfl ?_;refine xrd Tryz.func42 1 [0,2,3,4] rfl ?_;refine G.block rfl rfl ?_;refine G.loop (σ:=Nat×Bool×List Bool) (fun q=>[(0,.pointer (some ⟨db,0,none⟩)),(3,.slice (some ⟨h.size,0,none⟩) d.next.length d.next.length),(4,.bool q.2.1)]) (fun q h'=>Ext0 h h'∧OwE Value.bool h' h.size 4 (.slice (some ⟨h.size,0,none⟩) d.next.length d.next.length) q.2.2∧q.2.2.length=d.next.length∧(q.2.1=true→falses q.2.2<q.1∧liveG d q.1 q.2.2=tgt)∧(q.2.1=false→q.2.2=tgt)) (fun q=>q.1+(if q.2.1 then 1 else 0)) ((d.next.length+1,true,List.replicate d.next.length false)) rfl ⟨rfl,rfl,rfl,trivial⟩ ⟨e1,k1,by simp,fun _=>⟨Nat.lt_succ_of_le hf0,htgt⟩,fun k=>(by cases k)⟩ ?_;rintro⟨n,ag,out⟩ g ⟨eg,ho,hol,hT,hF⟩ ih
 try dsimp only
 dsimp only at ho hol hT hF;refine G.seq rfl ?_;refine xrd Tryz.func42 1 [0,3,4,15] rfl ?_;refine G.cond rfl rfl (fun hag=>?_) (fun hag=>?_)
 · subst hag;obtain⟨hfn,hcon⟩:=hT rfl;obtain⟨n,rfl⟩:∃m,n=m+1:=⟨n-1,by omega⟩
   rw[liveG] at hcon;have hless:=livePass_less d d.next.length 0 out false (by omega)
   generalize hps:livePass d d.next.length 0 out false=ps at hcon hless
   refine G.skip rfl ?_;refine G.block rfl rfl ?_;refine xrd Tryz.func42 1 [0,3,4,15] rfl ?_;refine xra Tryz.func42 2 rfl ?_;refine xp rfl (OpP.fieldAddr (off:=0) Tryz.underlying98 rfl rfl H.sz96 rfl) ?_;refine xp rfl (OpP.load H.ag96 rfl ((hk.ext0 eg).cell (i:=0) rfl)) ?_;refine xp rfl (OpP.lenSlice Tryz.underlying96 rfl) ?_;refine xqd 1 [0,3,4,15,19,20,21] rfl ?_;refine G.block rfl rfl ?_;refine G.loop (σ:=Nat×Bool×List Bool) (fun q=>[(0,.pointer (some ⟨db,0,none⟩)),(3,.slice (some ⟨h.size,0,none⟩) d.next.length d.next.length),(4,.bool q.2.1),(19,.slice na d.next.length nc),(20,.int .i64 (d.next.length:Nat)),(21,.int .i64 (q.1:Nat))]) (fun q h'=>Ext0 h h'∧OwE Value.bool h' h.size 4 (.slice (some ⟨h.size,0,none⟩) d.next.length d.next.length) q.2.2∧q.2.2.length=d.next.length∧q.1≤d.next.length∧livePass d (d.next.length-q.1) q.1 q.2.2 q.2.1=ps) (fun q=>d.next.length-q.1) ((0,false,out)) rfl ⟨rfl,rfl,rfl,rfl,rfl,rfl,trivial⟩ ⟨eg,ho,hol,Nat.zero_le _,hps⟩ ?_;rintro⟨k,ag,out⟩ g2 ⟨eg2,ho,hol,hkl,hcon2⟩ ih2
   try dsimp only
   dsimp only at ho hol hkl hcon2;refine xrd Tryz.func42 1 [0,3,4,19,20,21,22] rfl ?_;refine G.seq rfl ?_;refine G.ite rfl rfl (fun hlt=>?_) (fun hlt=>?_)
   · have hkN:k<d.next.length:=by omega
     obtain⟨m,hm⟩:∃m,d.next.length-k=m+1:=⟨d.next.length-k-1,by omega⟩
     rw[hm,livePass] at hcon2;obtain⟨r,hr⟩:∃r,d.next[k]? =some r:=⟨_,List.getElem?_eq_getElem hkN⟩
     obtain⟨oa',n',c',hv',_,_,_,hgetn⟩:=id (hslN.mv (Mv.ext0 eg2));cases hv';obtain⟨b1,o1,cs1,ha1,_,hrow1,rfl⟩:=hgetn k r hr;have hone:∀u∈encRow r,u.oneCell'=true:=fun u hu=>by simp[encRow] at hu;obtain⟨_,_,rfl⟩:=hu;rfl
     obtain⟨bx,hbx⟩:∃bx,out[k]? =some bx:=⟨_,List.getElem?_eq_getElem (by omega)⟩
     have hgd:out.getD k false=bx:=by rw[List.getD_eq_getElem?_getD,hbx];rfl
     rw[hgd] at hcon2;refine G.skip rfl ?_;refine G.seq rfl ?_;refine G.block rfl rfl ?_;refine xra Tryz.func42 1 rfl ?_;refine xp rfl (OpP.indexSlice Tryz.underlying96 H.sz102 rfl rfl k rfl ha1 (by omega)) ?_;refine xp rfl (OpP.loadRowN H.ag102 H.sz102 rfl hrow1 (by first|rfl|(simp;done)|(simp;omega))) ?_;refine xo rfl (OpX.allocN H.zr102) ?_;rintro _ g3 ⟨rfl,k6,e3,z3⟩;have k6:Blk g3 g2.size 102 (List.replicate 256 (Value.int .i64 0)):=k6;refine xqm 1 rfl ?_;refine RW.op0 rfl rfl rfl (OpX.storeBlk H.sz102 rfl rfl k6 (by first|rfl|(simp;done)|(simp;omega)) (by first|decide|exact of_decide_eq_true rfl|(simp;done)|(simp;omega)) (hone)) ?_;rintro _ g4 ⟨rfl,k7,x7,z7⟩;have k7:Blk g4 g2.size 102 (encRow r):=by rw[←over_row r];exact k7
     have e4:Ext0 g2 g4:=Ext0.only e3 x7 (Nat.le_refl _);have eg4:=eg2.trans e4;have ho4:=OwE.ext0 ho e4;obtain⟨gg,c4,hv4,hgb,hglt,hcell,hfz,hset⟩:=ho4.at hbx;rw[hol] at hv4;cases hv4;refine xd [0,3,4,5,6,19,20,21,22] rfl ?_;refine G.seq rfl ?_;refine xra Tryz.func42 2 rfl ?_;refine xp rfl (OpP.indexSlice Tryz.underlying106 H.sz4 rfl rfl k rfl rfl (by omega)) ?_;refine xp rfl (OpP.load H.ag4 rfl hcell) ?_;refine xd [0,3,4,5,6,19,20,21,22,29] rfl ?_;refine G.cond rfl rfl (fun hb=>?_) (fun hb=>?_)
     · subst hb;rw[if_pos rfl] at hcon2;refine G.exit rfl rfl ?_;refine G.reg Tryz.func42 rfl ?_;refine xp rfl (OpP.add64 rfl rfl ⟨by omega,by omega⟩) ?_;refine xqd 1 [0,3,4,5,6,19,20,21,22,29] rfl ?_;exact ih2 (k+1,ag,out) _ _ ⟨rfl,rfl,rfl,rfl,rfl,rfl,trivial⟩ ⟨eg4,ho4,hol,hkN,by show livePass d (d.next.length-(k+1)) _ _ _=ps;rw[show d.next.length-(k+1)=m by omega];exact hcon2⟩ (by show d.next.length-(k+1)<d.next.length-k;omega)
     · subst hb;rw[if_neg (by decide)] at hcon2;obtain⟨x,hx⟩:∃x,d.rule[k]? =some x:=⟨_,List.getElem?_eq_getElem (by omega)⟩
       have hru:d.ru k=x:=by unfold Tab.ru;rw[List.getD_eq_getElem?_getD,hx];rfl
       have hrow:d.row k=r.v:=by unfold Tab.row;rw[hr]
       obtain⟨oa',n',c',hv',_,_,_,hgetr⟩:=id (hslR.mv (Mv.ext0 eg4));cases hv';obtain⟨b2,o2,cs2,ha2,_,hrow2,rfl⟩:=hgetr k x hx;refine G.skip rfl ?_;refine xra Tryz.func42 4 rfl ?_;refine xp rfl (OpP.fieldAddr (off:=1) Tryz.underlying98 rfl rfl H.sz76 rfl) ?_;refine xp rfl (OpP.load H.ag76 rfl ((hk.ext0 eg4).cell (i:=1) rfl)) ?_;refine xqp 1 rfl rfl (OpP.indexSlice Tryz.underlying76 H.sz3 rfl rfl k rfl ha2 (by omega)) ?_;refine xp rfl (OpP.load H.ag3 rfl (hrow2 0 _ rfl)) ?_;refine xqp 1 rfl rfl (OpP.indexSlice Tryz.underlying106 H.sz4 rfl rfl k rfl rfl (by omega)) ?_;refine RW.op0 rfl rfl rfl (OpX.store H.sz4 rfl rfl rfl hcell hfz) ?_;rintro _ g5 ⟨rfl,hg5⟩;have hset:=hset (decide (0≤x));rw[←hg5] at hset;have x5:Ext (fun b=>b=h.size) g4 g5:=by rw[hg5];exact Ext.setC _ _ _ rfl
       have e5:Ext0 h g5:=Ext0.only eg4 x5 (Nat.le_refl _);have hz2:=eg2.size;have hlt2:h.size<g2.size:=(OwnH.lt ho rfl).2;have k8:=k7.ext x5 (by show ¬_=_;omega);refine xd [0,3,4,5,6,19,20,21,22,29] rfl ?_;refine G.seq rfl ?_;refine xr Tryz.func42 rfl ?_;refine xp rfl (OpP.loadRowN H.ag102 H.sz102 rfl k8.row (by first|rfl|(simp;done)|(simp;omega))) ?_;refine xqd 1 [0,3,4,5,6,19,20,21,22,29,41,42] rfl ?_;refine G.block rfl rfl ?_;refine G.loop (σ:=Nat) (fun j=>[(0,.pointer (some ⟨db,0,none⟩)),(3,.slice (some ⟨h.size,0,none⟩) d.next.length d.next.length),(4,.bool ag),(5,.int .i64 (k:Nat)),(19,.slice na d.next.length nc),(20,.int .i64 (d.next.length:Nat)),(21,.int .i64 (k:Nat)),(41,.agg (encRow r).toArray),(42,.int .i64 (j:Nat))]) (fun j h'=>Ext0 h h'∧OwE Value.bool h' h.size 4 (.slice (some ⟨h.size,0,none⟩) d.next.length d.next.length) (out.set k (decide (0≤x) ||(r.v.take j).any (liveTo out)))∧j≤256) (fun j=>256-j) (0) rfl ⟨rfl,rfl,rfl,rfl,rfl,rfl,rfl,rfl,rfl,trivial⟩ ⟨e5,by simpa using hset,Nat.zero_le _⟩ ?_;rintro j g6 ⟨eg6,ho6,hj⟩ ih3;refine xrd Tryz.func42 1 [0,3,4,5,19,20,21,41,42,43] rfl ?_;refine G.seq rfl ?_;refine G.ite rfl rfl (fun hlt3=>?_) (fun hlt3=>?_)
       · have hj2:j<256:=by omega
         obtain⟨t,ht⟩:∃t,r.v[j]? =some t:=⟨_,List.getElem?_eq_getElem (by rw[r.len];exact hj2)⟩
         have htr:(r.v.take (j+1)).any (liveTo out)=((r.v.take j).any (liveTo out) ||liveTo out t):=by rw[List.take_add_one,ht,List.any_append];simp
         have htm:=hok.to r (List.mem_of_getElem? hr) t (List.mem_of_getElem? ht);generalize hc:(decide (0≤x) ||(r.v.take j).any (liveTo out))=cb at ho6;have hcell6:(out.set k cb)[k]? =some cb:=by rw[List.getElem?_set_self (by rw[hol];exact hkN)]
         obtain⟨gg,c6,hv6,_,_,hcc6,hfz6,hset6⟩:=ho6.at hcell6;rw[List.length_set,hol] at hv6;cases hv6
         have fin:∀y g7,y=(decide (0≤x) ||(r.v.take (j+1)).any (liveTo out))→g7=setC g6 ⟨h.size,0+k*1,none⟩ (.bool y)→Ext0 h g7∧OwE Value.bool g7 h.size 4 (.slice (some ⟨h.size,0,none⟩) d.next.length d.next.length) (out.set k (decide (0≤x) ||(r.v.take (j+1)).any (liveTo out)))∧j+1≤256:=by
          rintro y g7 rfl rfl;have k9:=hset6 (decide (0≤x) ||(r.v.take (j+1)).any (liveTo out));rw[List.set_set] at k9;exact⟨Ext0.only eg6 (Ext.setC (M:=fun b=>b=h.size) g6 _ _ rfl) (Nat.le_refl _),k9,hj2⟩
         refine G.skip rfl ?_;refine G.seq rfl ?_;refine G.block rfl rfl ?_;refine xr Tryz.func42 rfl ?_;refine xp rfl (OpP.indexAgg Tryz.underlying102 H.sz3 H.ag3 rfl rfl j rfl hj2 (show (encRow r).toArray[j]? =some (Value.int .i64 t) by simp[encRow,ht])) ?_;refine xqd 1 [0,3,4,5,8,19,20,21,41,42,43] rfl ?_;refine G.reg Tryz.func42 rfl ?_;refine xqp 4 rfl rfl (OpP.indexSlice Tryz.underlying106 H.sz4 rfl rfl k rfl rfl (by omega)) ?_;refine xp rfl (OpP.load H.ag4 rfl hcc6) ?_;refine xqm 1 rfl ?_;refine RW.split (d:=51) rfl (fun hg=>?_) (fun hg=>?_)
         · refine xqp 9 rfl rfl (OpP.indexSlice Tryz.underlying106 H.sz4 rfl rfl k rfl rfl (by omega)) ?_;refine RW.op0 rfl rfl rfl (OpX.store H.sz4 rfl rfl rfl hcc6 hfz6) ?_;rintro _ g7 ⟨rfl,hg7⟩;refine xd [0,3,4,5,8,19,20,21,41,42,43] rfl ?_;refine G.blkEnd ?_;refine G.reg Tryz.func42 rfl ?_;refine xp rfl (OpP.add64 rfl rfl ⟨by omega,by omega⟩) ?_;refine xqd 1 [0,3,4,5,8,19,20,21,41,42,43] rfl ?_;exact ih3 (j+1) _ _ ⟨rfl,rfl,rfl,rfl,rfl,rfl,rfl,rfl,rfl,trivial⟩ (fin true g7 (by rw[htr,←Bool.or_assoc,hc,hg];rfl) hg7) (by omega)
         · refine xqm 3 rfl ?_;refine RW.split (d:=54) rfl (fun hg2=>?_) (fun hg2=>?_)
           · have hg2':=of_decide_eq_true hg2;obtain⟨t2,rfl⟩:=Int.eq_ofNat_of_zero_le hg2';obtain⟨bt,hbt⟩:∃bt,(out.set k cb)[t2]? =some bt:=⟨_,List.getElem?_eq_getElem (by rw[List.length_set,hol];omega)⟩
             obtain⟨gg,c6,hv6,_,_,hct,_,_⟩:=ho6.at hbt;rw[List.length_set,hol] at hv6;cases hv6
             have hlt2:liveTo out (t2:Nat)=bt:=by
              unfold liveTo;rw[decide_eq_true (show (0:Int)≤(t2:Nat) by omega),Bool.true_and,Int.toNat_natCast,List.getD_eq_getElem?_getD]
              by_cases e:k=t2
              · subst e;rw[hcell6] at hbt;cases hbt;rw[hbx,hg];rfl
              · rw[List.getElem?_set_ne e] at hbt;rw[hbt];rfl
             refine xqp 2 rfl rfl (OpP.indexSlice Tryz.underlying106 H.sz4 rfl rfl t2 rfl rfl (by omega)) ?_;refine xp rfl (OpP.load H.ag4 rfl hct) ?_;refine xqp 2 rfl rfl (OpP.indexSlice Tryz.underlying106 H.sz4 rfl rfl k rfl rfl (by omega)) ?_;refine RW.op0 rfl rfl rfl (OpX.store H.sz4 rfl rfl rfl hcc6 hfz6) ?_;rintro _ g7 ⟨rfl,hg7⟩;refine xd [0,3,4,5,8,19,20,21,41,42,43] rfl ?_;refine G.blkEnd ?_;refine G.reg Tryz.func42 rfl ?_;refine xp rfl (OpP.add64 rfl rfl ⟨by omega,by omega⟩) ?_;refine xqd 1 [0,3,4,5,8,19,20,21,41,42,43] rfl ?_;exact ih3 (j+1) _ _ ⟨rfl,rfl,rfl,rfl,rfl,rfl,rfl,rfl,rfl,trivial⟩ (fin bt g7 (by rw[htr,←Bool.or_assoc,hc,hg,hlt2,Bool.false_or]) hg7) (by omega)
           · have hg2':=of_decide_eq_false hg2;refine xqp 6 rfl rfl (OpP.indexSlice Tryz.underlying106 H.sz4 rfl rfl k rfl rfl (by omega)) ?_;refine RW.op0 rfl rfl rfl (OpX.store H.sz4 rfl rfl rfl hcc6 hfz6) ?_;rintro _ g7 ⟨rfl,hg7⟩;refine xd [0,3,4,5,8,19,20,21,41,42,43] rfl ?_;refine G.blkEnd ?_;refine G.reg Tryz.func42 rfl ?_;refine xp rfl (OpP.add64 rfl rfl ⟨by omega,by omega⟩) ?_;refine xqd 1 [0,3,4,5,8,19,20,21,41,42,43] rfl ?_;exact ih3 (j+1) _ _ ⟨rfl,rfl,rfl,rfl,rfl,rfl,rfl,rfl,rfl,trivial⟩ (fin false g7 (by rw[htr,←Bool.or_assoc,hc,hg];unfold liveTo;rw[decide_eq_false hg2'];rfl) hg7) (by omega)
       · have hje:j=256:=by omega
         have hla:(decide (0≤x) ||(r.v.take j).any (liveTo out))=liveAt d out k:=by
          unfold liveAt;rw[hru,hrow,hje,List.take_of_length_le (by rw[r.len];exact Nat.le_refl _)]
         rw[hla] at ho6;have hcell6:(out.set k (liveAt d out k))[k]? =some (liveAt d out k):=by rw[List.getElem?_set_self (by rw[hol];exact hkN)]
         obtain⟨gg,c6,hv6,_,_,hcc6,hfz6,_⟩:=ho6.at hcell6;rw[List.length_set,hol] at hv6;cases hv6;refine G.exit rfl rfl ?_;refine G.regTo1 [(4,.bool (ag ||liveAt d out k))] [(0,_),(3,_),(5,_),(19,_),(20,_),(21,_),(41,_),(42,_),(43,_)] ⟨rfl,rfl,rfl,rfl,rfl,rfl,rfl,rfl,rfl,trivial⟩ Tryz.func42 rfl ?_ ?_
         · refine xqm 2 rfl ?_;refine RW.split (d:=64) rfl (fun hg=>?_) (fun hg=>?_)
           · refine xqm 6 rfl ?_;refine RW.done rfl ?_;exact⟨rfl,at_bool rfl (by rw[hg];rfl),rfl,rfl,rfl,rfl,rfl,rfl,rfl,rfl,rfl,trivial⟩
           · refine xqp 2 rfl rfl (OpP.indexSlice Tryz.underlying106 H.sz4 rfl rfl k rfl rfl (by omega)) ?_;refine xp rfl (OpP.load H.ag4 rfl hcc6) ?_;refine xqm 2 rfl ?_;refine RW.done rfl ?_;exact⟨rfl,at_bool rfl (by rw[hg];rfl),rfl,rfl,rfl,rfl,rfl,rfl,rfl,rfl,rfl,trivial⟩
         · refine G.blkEnd ?_;refine G.reg Tryz.func42 rfl ?_;refine xp rfl (OpP.add64 rfl rfl ⟨by omega,by omega⟩) ?_;refine xqd 1 [0,3,4,5,19,20,21,41,42,43] rfl ?_;exact ih2 (k+1,ag ||liveAt d out k,out.set k (liveAt d out k)) _ _ ⟨rfl,rfl,rfl,rfl,rfl,rfl,trivial⟩ ⟨eg6,ho6,by show (out.set k _).length=_;rw[List.length_set];exact hol,hkN,by show livePass d (d.next.length-(k+1)) _ _ _=ps;rw[show d.next.length-(k+1)=m by omega];exact hcon2⟩ (by show d.next.length-(k+1)<d.next.length-k;omega)
   · have hke:d.next.length-k=0:=by omega
     rw[hke,livePass] at hcon2;subst hcon2;simp only at hcon hless;refine G.exit rfl rfl ?_;refine G.blkEnd ?_
     exact ih (n,ag,out) _ _ ⟨rfl,rfl,rfl,trivial⟩ ⟨eg2,ho,hol,fun ht=>by
      subst ht;rw[if_pos rfl] at hcon
      rcases hless.2 rfl with k|k
      · cases k
      · exact⟨by show falses out<n;omega,hcon⟩,fun hf=>by
      subst hf;rw[if_neg (by decide)] at hcon;exact hcon⟩ (by show n+(if ag=true then 1 else 0)<n+1+(if true=true then 1 else 0);rw[if_pos rfl];split<;>omega)
 · subst hag;have hcon:=hF rfl;refine G.exit rfl rfl ?_;refine xrd Tryz.func42 2 [0,2,3,4,15] rfl ?_;refine G.ret Tryz.func42 rfl rfl ?_;exact⟨_,rfl,by rw[←hcon];unfold OwE at ho ⊢;rw[hol] at ho ⊢;exact ho,eg⟩
end Go.Proofs.YtfegacfjgjaghaaGreatDoor
namespace Go.Proofs.YtfegacfjgjaghaaGreatDoor
open Go
def findK:Nat→List (List Int)→List Int→Option Nat
 |_,[],_=>none
 |i,x::r,l=>if l=x then some i else findK (i+1) r l
theorem findK_some:∀(ls:List (List Int)) (i j:Nat) (l:List Int),findK i ls l=some j→i≤j∧ls[j-i]? =some l
 | [],i,j,l,h=>by cases h
 |x::r,i,j,l,h=>by
  rw[findK] at h;split at h
  · rename_i e;cases h;subst e;exact⟨Nat.le_refl _,by simp⟩
  · have:=findK_some r (i+1) j l h;refine⟨by omega,?_⟩;rw[show j-i=(j-(i+1))+1 by omega,List.getElem?_cons_succ];exact this.2
def behindV (live:List Bool) (cls:List Int) (t:Int):Int:=if t<0∨live.getD t.toNat false=false then -2 else cls.getD t.toNat 0
def stKey (d:Tab) (live:List Bool) (cls:List Int) (k:Nat):List Int:=cls.getD k 0::(d.row k).map (behindV live cls)
def classPass (d:Tab) (live:List Bool) (cls:List Int):Nat→Nat→List (List Int)→List Int→List (List Int)×List Int
 | 0,_,seen,after=>(seen,after)
 |n+1,k,seen,after =>
  match findK 0 seen (stKey d live cls k) with
  |some i=>classPass d live cls n (k+1) seen (after++[(i:Int)])
  |none=>classPass d live cls n (k+1) (seen++[stKey d live cls k]) (after++[(seen.length:Int)])
def classG (d:Tab) (live:List Bool):Nat→Nat→List Int→List Int
 | 0,_,cls=>cls
 |n+1,many,cls =>
  if (classPass d live cls d.next.length 0 [] []).1.length=many then (classPass d live cls d.next.length 0 [] []).2
  else classG d live n (classPass d live cls d.next.length 0 [] []).1.length (classPass d live cls d.next.length 0 [] []).2
def classP (d:Tab) (live:List Bool):List Int:=classG d live (d.next.length+1) 0 d.rule
def Covers (m:Nat) (l:List Int):Prop:=∀i,i<m→(i:Int)∈l
theorem covers_len:∀(m:Nat) (l:List Int),Covers m l→m≤l.length
 | 0,_,_=>Nat.zero_le _
 |m+1,l,h=>by
  have hm:=h m (Nat.lt_succ_self m);have h1:Covers m (l.erase (m:Int)):=fun i hi=>(List.mem_erase_of_ne (by omega)).2 (h i (by omega))
  have h2:=covers_len m _ h1;have h3:=List.length_erase_of_mem hm;have h4:0<l.length:=List.length_pos_of_mem hm;omega
structure PassOk (d:Tab) (live:List Bool) (cls:List Int) (k:Nat) (seen:List (List Int)) (after:List Int):Prop where
 len:after.length=k
 size:seen.length≤k
 nums:Covers seen.length after
 bound:∀x∈after,0≤x∧x<seen.length
 all:∀j,j<k→stKey d live cls j∈seen
theorem classPass_ok {d:Tab}{live:List Bool}{cls:List Int}:∀(n k:Nat) (seen:List (List Int)) (after:List Int),PassOk d live cls k seen after→PassOk d live cls (k+n) (classPass d live cls n k seen after).1 (classPass d live cls n k seen after).2
 | 0,k,seen,after,h=>h
 |n+1,k,seen,after,h=>by
  rw[classPass,show k+(n+1)=(k+1)+n by omega];split
  · rename_i i hi;have hi':=findK_some seen 0 i _ hi;have hil:=(List.getElem?_eq_some_iff.1 hi'.2).1
    exact classPass_ok n (k+1) _ _ ⟨by simp[h.len],by have:=h.size;omega,fun j hj=>List.mem_append_left _ (h.nums j hj),fun x hx=>by
     rcases List.mem_append.1 hx with e|e
     · exact h.bound x e
     · have:x=(i:Int):=by simpa using e
       rw[this];omega,fun j hj=>by
     by_cases e:j=k
     · subst e;exact List.mem_of_getElem? hi'.2
     · exact h.all j (by omega)⟩
  · exact classPass_ok n (k+1) _ _ ⟨by simp[h.len],by have:=h.size;simp;omega,fun j hj=>by
     simp only[List.length_append,List.length_singleton] at hj
     by_cases e:j=seen.length
     · subst e;simp
     · exact List.mem_append_left _ (h.nums j (by omega)),fun x hx=>by
     simp only[List.length_append,List.length_singleton]
     rcases List.mem_append.1 hx with e|e
     · have:=h.bound x e;omega
     · have:x=(seen.length:Int):=by simpa using e
       omega,fun j hj=>by
     by_cases e:j=k
     · subst e;simp
     · exact List.mem_append_left _ (h.all j (by omega))⟩
theorem classPass_end (d:Tab) (live:List Bool) (cls:List Int):PassOk d live cls d.next.length (classPass d live cls d.next.length 0 [] []).1 (classPass d live cls d.next.length 0 [] []).2:=by
 have:=classPass_ok (d:=d) (live:=live) (cls:=cls) d.next.length 0 [] [] ⟨rfl,Nat.le_refl _,fun i hi=>absurd hi (Nat.not_lt_zero _),fun x hx=>(by cases hx),fun j hj=>absurd hj (Nat.not_lt_zero _)⟩
 rwa [Nat.zero_add] at this
theorem classPass_more {d:Tab}{live:List Bool}{cls:List Int}{many:Nat}(hc:Covers many cls) (hl:cls.length=d.next.length):many≤(classPass d live cls d.next.length 0 [] []).1.length:=by
 have h:=classPass_end d live cls
 have:Covers many ((classPass d live cls d.next.length 0 [] []).1.map fun s=>s.getD 0 0):=fun i hi=>by
  obtain⟨k,hk⟩:=List.getElem?_of_mem (hc i hi);have hkl:=(List.getElem?_eq_some_iff.1 hk).1;have:=h.all k (by omega);refine List.mem_map.2 ⟨_,this,?_⟩;simp[stKey,List.getD_eq_getElem?_getD,hk]
 have:=covers_len _ _ this;simpa using this
end Go.Proofs.YtfegacfjgjaghaaGreatDoor
namespace Go.Proofs.YtfegacfjgjaghaaGreatDoor
open Go Go.Lw
set_option maxRecDepth 20000
section
variable {live:List Bool}{cls:List Int}
def seenK:Nat→List (List Int)→List (ByteArray×Int)
 |_,[]=>[]
 |i,x::r=>(bs (keyP x),(i:Int))::seenK (i+1) r
theorem seenK_snoc:∀(ls:List (List Int)) (i:Nat) (l:List Int),seenK i (ls++[l])=seenK i ls++[(bs (keyP l),((i+ls.length:Nat):Int))]
 | [],i,l=>by simp[seenK]
 |x::r,i,l=>by
  simp only[List.cons_append,seenK];rw[seenK_snoc r (i+1) l,List.length_cons,show i+1+r.length=i+(r.length+1) by omega]
theorem seenK_len:∀(ls:List (List Int)) (i:Nat),(seenK i ls).length=ls.length
 | [],_=>rfl
 |x::r,i=>by rw[seenK,List.length_cons,List.length_cons,seenK_len r (i+1)]
theorem asc_seenK:∀(ls:List (List Int)) (i:Nat) (l:List Int),asc (bs (keyP l)) (seenK i ls)=(findK i ls l).map fun j=>(j:Int)
 | [],i,l=>rfl
 |x::r,i,l=>by
  rw[seenK,asc,findK]
  by_cases h:l=x
  · subst h;rw[if_pos rfl,if_pos rfl];rfl
  · have hk:¬bs (keyP l)=bs (keyP x):=fun e=>h (key_inj (bs_inj e))
    rw[if_neg hk,if_neg h];exact asc_seenK r (i+1) l
theorem behindV_of {t:Int}(h:t<0∨live.getD t.toNat false=false):behindV live cls t= -2:=if_pos h
theorem behindV_at {t:Int}(h:¬(t<0∨live.getD t.toNat false=false)):behindV live cls t=cls.getD t.toNat 0:=if_neg h
theorem getD_bounds (hcb:∀x∈cls,-1≤x∧x≤1000000) (k:Nat) : -1≤cls.getD k 0∧cls.getD k 0≤1000000:=by
 rw[List.getD_eq_getElem?_getD];cases hk:cls[k]? with
 |none=>simp
 |some x=>exact hcb x (List.mem_of_getElem? hk)
theorem stKey_bounds {d:Tab}(hcb:∀x∈cls,-1≤x∧x≤1000000) (k:Nat):∀x∈stKey d live cls k,-9223372036854775808≤x∧x≤9223372036854775807:=by
 intro x hx
 rcases List.mem_cons.1 hx with e|e
 · have:=getD_bounds hcb k;omega
 · obtain⟨t,_,rfl⟩:=List.mem_map.1 e;unfold behindV;split
   · omega
   · have:=getD_bounds hcb t.toNat;omega
theorem findK_snoc:∀(ls:List (List Int)) (i:Nat) (l:List Int),findK i ls l=none→findK i (ls++[l]) l=some (i+ls.length)
 | [],i,l,_=>by simp[findK]
 |x::r,i,l,h=>by
  rw[findK] at h;split at h
  · cases h
  · rename_i hn;rw[List.cons_append,findK,if_neg hn,findK_snoc r (i+1) l h,List.length_cons]
    congr 1;omega
theorem classes_calls {h:Heap}{db:Nat}{d:Tab}{lv:Value}(htens:Tens h) (k:TabRd h db d) (hok:d.Ok) (hlv:SlR .bool h (fun _=>False) lv live) (hll:live.length=d.next.length) :
 CallsH Tryz.prog 43 #[.pointer (some ⟨db,0,none⟩),lv] h (Ret fun r h'=>OwE (Value.int .i64) h' h.size 3 r (classP d live)∧Ext0 h h'):=by
 obtain⟨vn,vr,hk,⟨na,nn,nc,rfl,hnl,hnc,hnm,hgetn⟩,⟨ra,rn,rc,rfl,hrl,hrc,hrm,hgetr⟩⟩:=k;obtain⟨va,vm,vc,rfl,hvl,hvc,hvm,hgetv⟩:=hlv;have hlen:=hok.len;have hsize:=hok.size;have hslN:SlR eRowD h (fun _=>False) (.slice na nn nc) d.next:=⟨_,_,_,rfl,hnl,hnc,hnm,hgetn⟩
 have hslR:SlR (.int .i64) h (fun _=>False) (.slice ra rn rc) d.rule:=⟨_,_,_,rfl,hrl,hrc,hrm,hgetr⟩
 have hslV:SlR .bool h (fun _=>False) (.slice va vm vc) live:=⟨_,_,_,rfl,hvl,hvc,hvm,hgetv⟩
 subst hnl;generalize htgt:classP d live=tgt;refine CallsH.of Tryz.func43 rfl rfl ?_;refine xrd Tryz.func43 1 [0,1,4] rfl ?_;refine xra Tryz.func43 2 rfl ?_;refine xp rfl (OpP.fieldAddr (off:=0) Tryz.underlying98 rfl rfl H.sz96 rfl) ?_;refine xp rfl (OpP.load H.ag96 rfl (hk.cell (i:=0) rfl)) ?_;refine xp rfl (OpP.lenSlice Tryz.underlying96 rfl) ?_;refine xo rfl (OpX.makeOnes Tryz.underlying76 H.el3 H.zr3 rfl rfl rfl (by omega) (by decide)) ?_;rintro _ h1 ⟨rfl,k1,e1⟩;have k1:OwE (Value.int .i64) h1 h.size 3 (.slice (some ⟨h.size,0,none⟩) d.next.length d.next.length) (List.replicate d.next.length 0):=by unfold OwE;simpa using k1
 refine xqd 1 [0,1,4,5] rfl ?_;refine G.seq rfl ?_;refine xra Tryz.func43 1 rfl ?_;refine xp rfl (OpP.lenSlice Tryz.underlying76 rfl) ?_;refine xqd 1 [0,1,4,5,25,26] rfl ?_;refine G.block rfl rfl ?_;refine G.loop (σ:=Nat) (fun i=>[(0,.pointer (some ⟨db,0,none⟩)),(1,.slice va vm vc),(5,.slice (some ⟨h.size,0,none⟩) d.next.length d.next.length),(25,.int .i64 (d.next.length:Nat)),(26,.int .i64 (i:Nat))]) (fun i h'=>Ext0 h h'∧OwE (Value.int .i64) h' h.size 3 (.slice (some ⟨h.size,0,none⟩) d.next.length d.next.length) (d.rule.take i++List.replicate (d.next.length-i) 0)∧i≤d.next.length) (fun i=>d.next.length-i) (0) rfl ⟨rfl,rfl,rfl,rfl,rfl,trivial⟩ ⟨e1,by simpa using k1,Nat.zero_le _⟩ ?_;rintro i g ⟨eg,ho,hi⟩ ih;refine xrd Tryz.func43 1 [0,1,5,25,26,27] rfl ?_;refine G.seq rfl ?_;refine G.ite rfl rfl (fun hlt=>?_) (fun hlt=>?_)
 · have hiN:i<d.next.length:=by omega
   obtain⟨x,hx⟩:∃x,d.rule[i]? =some x:=⟨_,List.getElem?_eq_getElem (by omega)⟩
   have hxe:d.rule[i]'(by omega)=x:=(List.getElem?_eq_some_iff.1 hx).2;obtain⟨oa',n',c',hv',_,_,_,hgetr⟩:=id (hslR.mv (Mv.ext0 eg));cases hv';obtain⟨b2,o2,cs2,ha2,_,hrow2,rfl⟩:=hgetr i x hx;obtain⟨gg,c4,hv4,hgb,hglt,hcell,hfz,hset⟩:=ho.at (fill_get (z:=(0:Int)) hlen hiN);rw[fill_len hlen hi] at hv4;cases hv4;refine G.skip rfl ?_;refine G.seq rfl ?_;refine G.block rfl rfl ?_;refine xrd Tryz.func43 2 [0,1,5,6,25,26,27] rfl ?_;refine G.reg Tryz.func43 rfl ?_;refine xqp 4 rfl rfl (OpP.fieldAddr (off:=1) Tryz.underlying98 rfl rfl H.sz76 rfl) ?_;refine xp rfl (OpP.load H.ag76 rfl ((hk.ext0 eg).cell (i:=1) rfl)) ?_;refine xqp 1 rfl rfl (OpP.indexSlice Tryz.underlying76 H.sz3 rfl rfl i rfl ha2 (by omega)) ?_;refine xp rfl (OpP.load H.ag3 rfl (hrow2 0 _ rfl)) ?_;refine xp rfl (OpP.indexSlice Tryz.underlying76 H.sz3 rfl rfl i rfl rfl (by omega)) ?_;refine RW.op0 rfl rfl rfl (OpX.store H.sz3 rfl rfl rfl hcell hfz) ?_;rintro _ g2 ⟨rfl,hg2⟩;have hset:=hset x;rw[←hg2,←hxe,fill_set hlen hiN] at hset;have x2:Ext (fun b=>b=h.size) g g2:=by rw[hg2];exact Ext.setC _ _ _ rfl
   have e2:Ext0 h g2:=Ext0.only eg x2 (Nat.le_refl _);refine xd [0,1,5,6,25,26,27] rfl ?_;refine G.blkEnd ?_;refine G.reg Tryz.func43 rfl ?_;refine xp rfl (OpP.add64 rfl rfl ⟨by omega,by omega⟩) ?_;refine xqd 1 [0,1,5,6,25,26,27] rfl ?_;exact ih (i+1) _ _ ⟨rfl,rfl,rfl,rfl,rfl,trivial⟩ ⟨e2,hset,hiN⟩ (by show d.next.length-(i+1)<d.next.length-i;omega)
 · obtain rfl:i=d.next.length:=by omega
   rw[Nat.sub_self,List.replicate_zero,List.append_nil,List.take_of_length_le (by omega)] at ho;refine G.exit rfl rfl ?_;refine xrd Tryz.func43 1 [0,1,5,7,25,26,27] rfl ?_;refine G.block rfl rfl ?_;refine G.loop (σ:=Nat×Nat×Value×List Int) (fun q=>[(0,.pointer (some ⟨db,0,none⟩)),(1,.slice va vm vc),(5,q.2.2.1),(7,.int .i64 (q.2.1:Nat))]) (fun q h'=>Ext0 h h'∧OwE (Value.int .i64) h' h.size 3 q.2.2.1 q.2.2.2∧q.2.2.2.length=d.next.length∧(∀x∈q.2.2.2,-1≤x∧x≤1000000)∧(q.2.1≤d.next.length∧Covers q.2.1 q.2.2.2∧d.next.length+1≤q.1+q.2.1)∧classG d live q.1 q.2.1 q.2.2.2=tgt) (fun q=>q.1) ((d.next.length+1,0,.slice (some ⟨h.size,0,none⟩) d.next.length d.next.length,d.rule)) rfl ⟨rfl,rfl,rfl,rfl,trivial⟩ ⟨eg,ho,hlen,hok.ru,⟨Nat.zero_le _,fun i hi=>absurd hi (Nat.not_lt_zero _),by simp⟩,htgt⟩ ?_;rintro⟨n,many,vcl,cls⟩ g ⟨eg,ho,hcl,hcb,⟨hmN,hcov,hfuel⟩,hcon⟩ ih
   try dsimp only
   dsimp only at ho hcl hcb hmN hcov hfuel hcon;obtain⟨n,rfl⟩:∃m,n=m+1:=⟨n-1,by omega⟩
   rw[classG] at hcon;have hmore:=classPass_more (d:=d) (live:=live) hcov hcl;have hend:=classPass_end d live cls;generalize hps:classPass d live cls d.next.length 0 [] []=ps at hcon hmore hend
   obtain⟨la,lc,rfl,_⟩:=(show OwnH g h.size 3 1 vcl cls.length (cls.map (Value.int .i64)) from ho).open;rw[hcl] at ho;have hown:∀b,(Value.slice la d.next.length lc).ownBlock=some b→b<g.size:=fun b hb=>(OwnH.lt ho hb).2
   rw[hcl];refine G.block rfl rfl ?_;refine xr Tryz.func43 rfl ?_;refine xo rfl (OpX.makeMap (ek:=Value.string) (ev:=Value.int .i64)) ?_;rintro _ g1 ⟨rfl,hm1,e1',z1⟩;refine xqd 1 [0,1,5,7,8] rfl ?_;refine xra Tryz.func43 1 rfl ?_;refine xp rfl (OpP.lenSlice Tryz.underlying76 rfl) ?_;refine xo rfl (OpX.makeOnes Tryz.underlying76 H.el3 H.zr3 rfl rfl rfl (by omega) (by decide)) ?_;rintro _ g2 ⟨rfl,k2,e2⟩;have k2:OwE (Value.int .i64) g2 g1.size 3 (.slice (some ⟨g1.size,0,none⟩) d.next.length d.next.length) (List.replicate d.next.length 0):=by unfold OwE;simpa using k2
   have hm2:=hm1.ext e2 (fun k=>k);have e12:=e1'.trans e2;refine xqd 1 [0,1,5,7,8,9] rfl ?_;refine G.seq rfl ?_;refine xra Tryz.func43 2 rfl ?_;refine xp rfl (OpP.fieldAddr (off:=0) Tryz.underlying98 rfl rfl H.sz96 rfl) ?_;refine xp rfl (OpP.load H.ag96 rfl ((hk.ext0 (eg.trans e12)).cell (i:=0) rfl)) ?_;refine xp rfl (OpP.lenSlice Tryz.underlying96 rfl) ?_;refine xqd 1 [0,1,5,7,8,9,47,48,49] rfl ?_;refine G.block rfl rfl ?_;refine G.loop (σ:=Nat×List (List Int)×List Int) (fun q=>[(0,.pointer (some ⟨db,0,none⟩)),(1,.slice va vm vc),(5,.slice la d.next.length lc),(7,.int .i64 (many:Nat)),(8,.map (some g.size)),(9,.slice (some ⟨g1.size,0,none⟩) d.next.length d.next.length),(47,.slice na d.next.length nc),(48,.int .i64 (d.next.length:Nat)),(49,.int .i64 (q.1:Nat))]) (fun q h'=>Ext0 g h'∧MapH Value.string (Value.int .i64) h' g.size (seenK 0 q.2.1)∧OwE (Value.int .i64) h' g1.size 3 (.slice (some ⟨g1.size,0,none⟩) d.next.length d.next.length) (q.2.2++List.replicate (d.next.length-q.1) 0)∧(q.1≤d.next.length∧q.2.2.length=q.1∧q.2.1.length≤q.1)∧classPass d live cls (d.next.length-q.1) q.1 q.2.1 q.2.2=ps) (fun q=>d.next.length-q.1) ((0,[],[])) rfl ⟨rfl,rfl,rfl,rfl,rfl,rfl,rfl,rfl,rfl,trivial⟩ ⟨e12,hm2,k2,⟨Nat.zero_le _,rfl,Nat.le_refl _⟩,hps⟩ ?_;rintro⟨k,seen,after⟩ g3 ⟨e3,hmp,haf,⟨hkN,hal,hsl⟩,hcon2⟩ ih2
   try dsimp only
   dsimp only at hmp haf hkN hal hsl hcon2;have eg3:=eg.trans e3;have ho3:=OwE.ext0 ho e3;refine xrd Tryz.func43 1 [0,1,5,7,8,9,47,48,49,50] rfl ?_;refine G.seq rfl ?_;refine G.ite rfl rfl (fun hlt=>?_) (fun hlt=>?_)
   · have hkN:k<d.next.length:=by omega
     obtain⟨m,hm⟩:∃m,d.next.length-k=m+1:=⟨d.next.length-k-1,by omega⟩
     rw[hm,classPass] at hcon2;obtain⟨r,hr⟩:∃r,d.next[k]? =some r:=⟨_,List.getElem?_eq_getElem hkN⟩
     obtain⟨oa',n',c',hv',_,_,_,hgetn⟩:=id (hslN.mv (Mv.ext0 eg3));cases hv';obtain⟨b1,o1,cs1,ha1,_,hrow1,rfl⟩:=hgetn k r hr;have hone:∀u∈encRow r,u.oneCell'=true:=fun u hu=>by simp[encRow] at hu;obtain⟨_,_,rfl⟩:=hu;rfl
     have hrow:d.row k=r.v:=by unfold Tab.row;rw[hr]
     refine G.skip rfl ?_;refine G.seq rfl ?_;refine G.block rfl rfl ?_;refine xra Tryz.func43 1 rfl ?_;refine xp rfl (OpP.indexSlice Tryz.underlying96 H.sz102 rfl rfl k rfl ha1 (by omega)) ?_;refine xp rfl (OpP.loadRowN H.ag102 H.sz102 rfl hrow1 (by first|rfl|(simp;done)|(simp;omega))) ?_;refine xo rfl (OpX.allocN H.zr102) ?_;rintro _ g4 ⟨rfl,k4,e4,z4⟩;have k4:Blk g4 g3.size 102 (List.replicate 256 (Value.int .i64 0)):=k4;refine xqm 1 rfl ?_;refine RW.op0 rfl rfl rfl (OpX.storeBlk H.sz102 rfl rfl k4 (by first|rfl|(simp;done)|(simp;omega)) (by first|decide|exact of_decide_eq_true rfl|(simp;done)|(simp;omega)) (hone)) ?_;rintro _ g5 ⟨rfl,k5,x5,z5⟩;have k5:Blk g5 g3.size 102 (encRow r):=by rw[←over_row r];exact k5
     have e5:Ext0 g3 g5:=Ext0.only e4 x5 (Nat.le_refl _);have ho5:=OwE.ext0 ho3 e5;obtain⟨c,hc⟩:∃c,cls[k]? =some c:=⟨_,List.getElem?_eq_getElem (by omega)⟩
     have hgd:cls.getD k 0=c:=by rw[List.getD_eq_getElem?_getD,hc];rfl
     obtain⟨gg,c4,hv4,hgb,hglt,hcell,hfz,hset⟩:=ho5.at hc;rw[hcl] at hv4;have hla:la=some ⟨gg,0,none⟩:=by cases hv4;rfl
     refine xd [0,1,5,7,8,9,10,11,47,48,49,50] rfl ?_;refine xra Tryz.func43 2 rfl ?_;refine xp rfl (OpP.indexSlice Tryz.underlying76 H.sz3 rfl rfl k rfl hla (by omega)) ?_;refine xp rfl (OpP.load H.ag3 rfl hcell) ?_;have e56:Ext0 g5 (g5.push (.cells #[.int .i64 c] 3)):=Ext.push _ _ _;have hl6:OwE (Value.int .i64) (g5.push (.cells #[.int .i64 c] 3)) g5.size 3 (.slice (some ⟨g5.size,0,none⟩) 1 1) [c]:=OwE.made (Value.int .i64) g5 3 [c] 1 rfl (by decide) g5.size (Nat.le_refl _) rfl;refine xo rfl (OpX.buildOnes (us:=[_]) Tryz.underlying76 H.el3 rfl rfl (by decide) (by simp[Value.oneCell'])) ?_;rintro _ _ ⟨rfl,rfl⟩;refine xqd 1 [0,1,5,7,8,9,10,11,12,47,48,49,50] rfl ?_;refine G.seq rfl ?_;refine xr Tryz.func43 rfl ?_;generalize g5.push (.cells #[.int .i64 c] 3)=g6 at *;have k6:=k5.ext0 e56;have e36:Ext0 g3 g6:=e5.trans e56;have ho6:=OwE.ext0 ho5 e56;have hz5:=e5.size;refine xp rfl (OpP.loadRowN H.ag102 H.sz102 rfl k6.row (by first|rfl|(simp;done)|(simp;omega))) ?_;refine xqd 1 [0,1,5,7,8,9,10,11,12,47,48,49,50,59,60] rfl ?_;refine G.block rfl rfl ?_;refine G.loop (σ:=Nat×Value) (fun q=>[(0,.pointer (some ⟨db,0,none⟩)),(1,.slice va vm vc),(5,.slice la d.next.length lc),(7,.int .i64 (many:Nat)),(8,.map (some g.size)),(9,.slice (some ⟨g1.size,0,none⟩) d.next.length d.next.length),(10,.int .i64 (k:Nat)),(12,q.2),(47,.slice na d.next.length nc),(48,.int .i64 (d.next.length:Nat)),(49,.int .i64 (k:Nat)),(59,.agg (encRow r).toArray),(60,.int .i64 (q.1:Nat))]) (fun q h'=>Ext0 g3 h'∧OwE (Value.int .i64) h' g5.size 3 q.2 (c::(r.v.take q.1).map (behindV live cls))∧q.1≤256∧g5.size≤h'.size) (fun q=>256-q.1) ((0,.slice (some ⟨g5.size,0,none⟩) 1 1)) rfl ⟨rfl,rfl,rfl,rfl,rfl,rfl,rfl,rfl,rfl,rfl,rfl,rfl,rfl,trivial⟩ ⟨e36,hl6,Nat.zero_le _,e56.size⟩ ?_;rintro⟨j,vl⟩ g7 ⟨e7,hl7,hj,hz7⟩ ih3
     try dsimp only
     dsimp only at hl7 hj;have eg7:=eg3.trans e7;have ho7:=OwE.ext0 ho3 e7;have hlen7:(c::(r.v.take j).map (behindV live cls)).length=j+1:=by simp[r.len];omega
     refine xrd Tryz.func43 1 [0,1,5,7,8,9,10,12,47,48,49,59,60,61] rfl ?_;refine G.seq rfl ?_;refine G.ite rfl rfl (fun hlt3=>?_) (fun hlt3=>?_)
     · have hj2:j<256:=by omega
       obtain⟨t,ht⟩:∃t,r.v[j]? =some t:=⟨_,List.getElem?_eq_getElem (by rw[r.len];exact hj2)⟩
       have htm:=hok.to r (List.mem_of_getElem? hr) t (List.mem_of_getElem? ht);have htr:c::(r.v.take (j+1)).map (behindV live cls)=(c::(r.v.take j).map (behindV live cls))++[behindV live cls t]:=by rw[List.take_add_one,ht];simp
       have hlo:OwnH g7 g5.size 3 1 vl (c::(r.v.take j).map (behindV live cls)).length ((c::(r.v.take j).map (behindV live cls)).map (Value.int .i64)):=hl7;have hlo2:=hlo;rw[hlen7] at hlo2;obtain⟨wa,wc,rfl,_⟩:=hlo2.open;have hl8:OwE (Value.int .i64) g7 g5.size 3 (.slice wa (j+1) wc) (c::(r.v.take j).map (behindV live cls)):=hl7
       have fin:∀v8 g8 x,OwnH g8 g5.size 3 1 v8 (j+1+1) ((c::(r.v.take j).map (behindV live cls)).map (Value.int .i64)++[.int .i64 x])→Ext (but (Value.slice wa (j+1) wc).ownBlock) g7 g8→x=behindV live cls t→Ext0 g3 g8∧OwE (Value.int .i64) g8 g5.size 3 v8 (c::(r.v.take (j+1)).map (behindV live cls))∧j+1≤256∧g5.size≤g8.size:=by
        rintro v8 g8 x ho hx rfl;refine⟨OwE.grown e7 hl8 hz5 hx,?_,hj2,Nat.le_trans hz7 hx.size⟩;rw[htr];exact OwE.of ho hlen7.symm rfl rfl
       refine G.skip rfl ?_;refine G.seq rfl ?_;refine G.block rfl rfl ?_;refine xr Tryz.func43 rfl ?_;refine xp rfl (OpP.indexAgg Tryz.underlying102 H.sz3 H.ag3 rfl rfl j rfl hj2 (show (encRow r).toArray[j]? =some (Value.int .i64 t) by simp[encRow,ht])) ?_;refine xqd 1 [0,1,5,7,8,9,10,12,14,47,48,49,59,60,61] rfl ?_;refine xra Tryz.func43 3 rfl ?_;refine RW.split (d:=65) rfl (fun hg=>?_) (fun hg=>?_)
       · have hg':=of_decide_eq_true hg;refine xqd 6 [0,1,5,7,8,9,10,12,14,47,48,49,59,60,61,71] rfl ?_;refine G.cond rfl rfl (fun _=>?_) (fun hc=>absurd hc (by simp));refine G.reg Tryz.func43 rfl ?_;refine xqm 1 rfl ?_;refine xo rfl (OpX.buildOnes (us:=[_]) Tryz.underlying76 H.el3 rfl rfl (by decide) (by simp[Value.oneCell'])) ?_;rintro _ _ ⟨rfl,rfl⟩;refine xo rfl (OpX.appendNew Tryz.underlying76 H.el3 rfl rfl (hlo2) rfl rfl (by first|decide|simp[Value.oneCell']) (by omega) (by decide) (by omega)) ?_;rintro v8 g8 ⟨ho8,hx8,hx8',hv8⟩;have ff:=fin v8 g8 (-2) ho8 hx8 (behindV_of (.inl hg')).symm;obtain⟨v8a,v8c,rfl,_⟩:=ho8.open;refine xqd 1 [0,1,5,7,8,9,10,12,14,47,48,49,59,60,61,71] rfl ?_;refine G.blkEnd ?_;refine G.reg Tryz.func43 rfl ?_;refine xp rfl (OpP.add64 rfl rfl ⟨by omega,by omega⟩) ?_;refine xqd 1 [0,1,5,7,8,9,10,12,14,47,48,49,59,60,61,71] rfl ?_;exact ih3 (j+1,_) _ _ ⟨rfl,rfl,rfl,rfl,rfl,rfl,rfl,rfl,rfl,rfl,rfl,rfl,rfl,trivial⟩ ff (by show 256-(j+1)<256-j;omega)
       · have hg':=of_decide_eq_false hg;obtain⟨t2,rfl⟩:=Int.eq_ofNat_of_zero_le (show 0≤t by omega);obtain⟨bt,hbt⟩:∃bt,live[t2]? =some bt:=⟨_,List.getElem?_eq_getElem (by omega)⟩
         have hlt2:live.getD t2 false=bt:=by rw[List.getD_eq_getElem?_getD,hbt];rfl
         obtain⟨oa',n',c',hv',_,_,_,hgetv⟩:=id (hslV.mv (Mv.ext0 eg7));cases hv';obtain⟨b3,o3,cs3,ha3,_,hrow3,rfl⟩:=hgetv t2 bt hbt;refine xqp 2 rfl rfl (OpP.indexSlice Tryz.underlying106 H.sz4 rfl rfl t2 rfl ha3 (by omega)) ?_;refine xp rfl (OpP.load H.ag4 rfl (hrow3 0 _ rfl)) ?_;refine xqd 2 [0,1,5,7,8,9,10,12,14,47,48,49,59,60,61,71] rfl ?_;refine G.cond rfl rfl (fun hb=>?_) (fun hb=>?_)
         · have hb':bt=false:=by simpa using hb
           refine G.reg Tryz.func43 rfl ?_;refine xqm 1 rfl ?_;refine xo rfl (OpX.buildOnes (us:=[_]) Tryz.underlying76 H.el3 rfl rfl (by decide) (by simp[Value.oneCell'])) ?_;rintro _ _ ⟨rfl,rfl⟩;refine xo rfl (OpX.appendNew Tryz.underlying76 H.el3 rfl rfl (hlo2) rfl rfl (by first|decide|simp[Value.oneCell']) (by omega) (by decide) (by omega)) ?_;rintro v8 g8 ⟨ho8,hx8,hx8',hv8⟩;have ff:=fin v8 g8 (-2) ho8 hx8 (behindV_of (.inr (by show live.getD t2 false=false;rw[hlt2,hb']))).symm;obtain⟨v8a,v8c,rfl,_⟩:=ho8.open;refine xqd 1 [0,1,5,7,8,9,10,12,14,47,48,49,59,60,61,71] rfl ?_;refine G.blkEnd ?_;refine G.reg Tryz.func43 rfl ?_;refine xp rfl (OpP.add64 rfl rfl ⟨by omega,by omega⟩) ?_;refine xqd 1 [0,1,5,7,8,9,10,12,14,47,48,49,59,60,61,71] rfl ?_;exact ih3 (j+1,_) _ _ ⟨rfl,rfl,rfl,rfl,rfl,rfl,rfl,rfl,rfl,rfl,rfl,rfl,rfl,trivial⟩ ff (by show 256-(j+1)<256-j;omega)
         · have hb':bt=true:=by simpa using hb
           obtain⟨c2,hc2⟩:∃c2,cls[t2]? =some c2:=⟨_,List.getElem?_eq_getElem (by omega)⟩
           have hgd2:cls.getD t2 0=c2:=by rw[List.getD_eq_getElem?_getD,hc2];rfl
           obtain⟨gg2,c42,hv42,hgb2,hglt2,hcell2,hfz2,hset2⟩:=ho7.at hc2;rw[hcl] at hv42;have hla2:la=some ⟨gg2,0,none⟩:=by cases hv42;rfl
           refine G.reg Tryz.func43 rfl ?_;refine xqp 3 rfl rfl (OpP.indexSlice Tryz.underlying76 H.sz3 rfl rfl t2 rfl hla2 (by omega)) ?_;refine xp rfl (OpP.load H.ag3 rfl hcell2) ?_;refine xo rfl (OpX.buildOnes (us:=[_]) Tryz.underlying76 H.el3 rfl rfl (by decide) (by simp[Value.oneCell'])) ?_;rintro _ _ ⟨rfl,rfl⟩;refine xo rfl (OpX.appendNew Tryz.underlying76 H.el3 rfl rfl (hlo2) rfl rfl (by first|decide|simp[Value.oneCell']) (by omega) (by decide) (by omega)) ?_;rintro v8 g8 ⟨ho8,hx8,hx8',hv8⟩
           have ff:=fin v8 g8 c2 ho8 hx8 (by
            rw[behindV_at (by
             rintro(e|e)
             · exact hg' e
             · rw[Int.toNat_natCast,hlt2,hb'] at e;cases e),Int.toNat_natCast,hgd2])
           obtain⟨v8a,v8c,rfl,_⟩:=ho8.open;refine xqd 1 [0,1,5,7,8,9,10,12,14,47,48,49,59,60,61,71] rfl ?_;refine G.blkEnd ?_;refine G.reg Tryz.func43 rfl ?_;refine xp rfl (OpP.add64 rfl rfl ⟨by omega,by omega⟩) ?_;refine xqd 1 [0,1,5,7,8,9,10,12,14,47,48,49,59,60,61,71] rfl ?_;exact ih3 (j+1,_) _ _ ⟨rfl,rfl,rfl,rfl,rfl,rfl,rfl,rfl,rfl,rfl,rfl,rfl,rfl,trivial⟩ ff (by show 256-(j+1)<256-j;omega)
     · obtain rfl:j=256:=by omega
       have hkey:c::(r.v.take 256).map (behindV live cls)=stKey d live cls k:=by unfold stKey;rw[hgd,hrow,List.take_of_length_le (by rw[r.len];exact Nat.le_refl _)]
       have hkb:=stKey_bounds (d:=d) (live:=live) hcb k;have hkl:(stKey d live cls k).length≤1000000:=by rw[←hkey,hlen7];decide
       rw[hkey] at hl7;generalize hkk:stKey d live cls k=key at *;refine G.exit rfl rfl ?_;refine xra Tryz.func43 1 rfl ?_;refine xo rfl (OpX.call (vs:=[_]) Tryz.func38 rfl H.nm38 rfl (CallsH.toX (key_calls (O:=fun _=>False) (htens.ext0 eg7) (OwE.read (h1:=fun _=>rfl) hl7 (fun _ _ k=>k)) hkl hkb))) ?_;rintro _ g8 ⟨rfl,e8⟩;have e38:Ext0 g3 g8:=e7.trans e8;have eg8:Ext0 g g8:=e3.trans e38;have mp8:=hmp.ext e38 (fun k=>k);have haf8:=OwE.ext0 haf e38
       have hk0:(after++List.replicate (d.next.length-k) (0:Int))[k]? =some 0:=by
        rw[List.getElem?_append_right (by omega),List.getElem?_replicate,if_pos (by omega)]
       have hl0:(after++List.replicate (d.next.length-k) (0:Int)).length=d.next.length:=by simp;omega
       have hsetA:∀y:Int,(after++List.replicate (d.next.length-k) (0:Int)).set k y=(after++[y])++List.replicate (d.next.length-(k+1)) 0:=fun y=>by
        rw[List.set_append_right _ _ (by omega),hal,Nat.sub_self,show d.next.length-k=(d.next.length-(k+1))+1 by omega,List.replicate_succ,List.set_cons_zero];simp
       have hz12:=e1'.size
       have fin2:∀(gA gB:Heap) (seen':List (List Int)) (y:Int),Ext0 g gA→MapH Value.string (Value.int .i64) gA g.size (seenK 0 seen')→OwE (Value.int .i64) gB g1.size 3 (.slice (some ⟨g1.size,0,none⟩) d.next.length d.next.length) ((after++List.replicate (d.next.length-k) (0:Int)).set k y)→gB=setC gA ⟨g1.size,0+k*1,none⟩ (.int .i64 y)→classPass d live cls m (k+1) seen' (after++[y])=ps→seen'.length≤k+1→Ext0 g gB∧MapH Value.string (Value.int .i64) gB g.size (seenK 0 seen')∧OwE (Value.int .i64) gB g1.size 3 (.slice (some ⟨g1.size,0,none⟩) d.next.length d.next.length) ((after++[y])++List.replicate (d.next.length-(k+1)) 0)∧(k+1≤d.next.length∧(after++[y]).length=k+1∧seen'.length≤k+1)∧classPass d live cls (d.next.length-(k+1)) (k+1) seen' (after++[y])=ps:=by
        rintro gA gB seen' y eA mA hB hgB hcp hsl';have xB:Ext (fun b=>b=g1.size) gA gB:=by rw[hgB];exact Ext.setC _ _ _ rfl
        refine⟨Ext0.only eA xB hz12,mA.ext xB (by show ¬_=_;omega),?_,⟨hkN,by simp[hal],hsl'⟩,?_⟩
        · rw[←hsetA];exact hB
        · rw[show d.next.length-(k+1)=m by omega];exact hcp
       refine xqd 1 [0,1,5,7,8,9,10,12,15,47,48,49,59,60,61] rfl ?_;refine G.seq rfl ?_;refine xra Tryz.func43 2 rfl ?_;refine xp rfl (OpP.lookupOk (z:=.int .i64 0) KeyE.str Tryz.underlying100 Tryz.underlying9 (by kernel_rfl) rfl rfl rfl mp8) ?_;rw[asc_seenK]
       rcases hfind:findK 0 seen key with _|i0
       · rw[hfind] at hcon2;simp only at hcon2;have hnone:asc (bs (keyP key)) (seenK 0 seen)=none:=by rw[asc_seenK,hfind];rfl
         refine xqd 5 [0,1,5,7,8,9,10,12,15,17,47,48,49,59,60,61] rfl ?_;refine xrd Tryz.func43 2 [0,1,5,7,8,9,10,12,15,17,47,48,49,59,60,61,92] rfl ?_;refine G.cond rfl rfl (fun _=>?_) (fun hc=>absurd hc (by simp));refine G.reg Tryz.func43 rfl ?_;refine xqp 3 rfl rfl (OpP.lenMap Tryz.underlying100 rfl (mp8)) ?_;refine RW.op0 rfl rfl rfl (OpX.mapUpdate (v:=((seenK 0 seen).length:Int)) KeyE.str Tryz.underlying100 Tryz.underlying9 rfl rfl rfl rfl rfl mp8 hnone) ?_;rintro _ g9 ⟨rfl,mp9,x9,z9⟩;have mp9:MapH Value.string (Value.int .i64) g9 g.size (seenK 0 (seen++[key])):=by rw[seenK_snoc,Nat.zero_add,←seenK_len seen 0];exact mp9
         have hsz8:=eg8.size;have e9:Ext0 g g9:=Ext0.only eg8 x9 (Nat.le_refl _);have haf9:OwE (Value.int .i64) g9 g1.size 3 (.slice (some ⟨g1.size,0,none⟩) d.next.length d.next.length) (after++List.replicate (d.next.length-k) (0:Int)):=OwnH.ext x9 haf8 (fun b hb (e:b=g.size)=>by have:=(OwnH.lt haf8 hb).1;omega);obtain⟨gg3,c3,hv3,_,_,hcell3,hfz3,hset3⟩:=haf9.at hk0;rw[hl0] at hv3;cases hv3;have hasc:asc (bs (keyP key)) (seenK 0 (seen++[key]))=some ((seen.length:Nat):Int):=by rw[asc_seenK,findK_snoc seen 0 key hfind,Nat.zero_add];rfl
         refine xd [0,1,5,7,8,9,10,12,15,17,47,48,49,59,60,61,92] rfl ?_;refine G.reg Tryz.func43 rfl ?_;refine xqp 4 rfl rfl (OpP.lookup (z:=.int .i64 0) KeyE.str Tryz.underlying100 Tryz.underlying9 (by kernel_rfl) rfl rfl rfl mp9) ?_;rw[hasc,Option.map_some,Option.getD_some];refine xp rfl (OpP.indexSlice Tryz.underlying76 H.sz3 rfl rfl k rfl rfl (by omega)) ?_;refine RW.op0 rfl rfl rfl (OpX.store H.sz3 rfl rfl rfl hcell3 hfz3) ?_;rintro _ g10 ⟨rfl,hg10⟩;have hg10:g10=setC g9 ⟨g1.size,0+k*1,none⟩ (.int .i64 ((seen.length:Nat):Int)):=hg10;have hB:=hset3 ((seen.length:Nat):Int);rw[←hg10] at hB;refine xd [0,1,5,7,8,9,10,12,15,17,47,48,49,59,60,61,92] rfl ?_;refine G.blkEnd ?_;refine G.reg Tryz.func43 rfl ?_;refine xp rfl (OpP.add64 rfl rfl ⟨by omega,by omega⟩) ?_;refine xqd 1 [0,1,5,7,8,9,10,12,15,17,47,48,49,59,60,61,92] rfl ?_;exact ih2 (k+1,seen++[key],after++[((seen.length:Nat):Int)]) _ _ ⟨rfl,rfl,rfl,rfl,rfl,rfl,rfl,rfl,rfl,trivial⟩ (fin2 g9 g10 _ _ e9 mp9 hB hg10 hcon2 (by simp;omega)) (by show d.next.length-(k+1)<d.next.length-k;omega)
       · rw[hfind] at hcon2;simp only at hcon2;refine xqd 5 [0,1,5,7,8,9,10,12,15,17,47,48,49,59,60,61] rfl ?_;refine xrd Tryz.func43 2 [0,1,5,7,8,9,10,12,15,17,47,48,49,59,60,61,92] rfl ?_;refine G.cond rfl rfl (fun hc=>absurd hc (by simp)) (fun _=>?_);obtain⟨gg3,c3,hv3,_,_,hcell3,hfz3,hset3⟩:=haf8.at hk0;rw[hl0] at hv3;cases hv3;have hasc:asc (bs (keyP key)) (seenK 0 seen)=some ((i0:Nat):Int):=by rw[asc_seenK,hfind];rfl
         refine G.skip rfl ?_;refine G.reg Tryz.func43 rfl ?_;refine xqp 4 rfl rfl (OpP.lookup (z:=.int .i64 0) KeyE.str Tryz.underlying100 Tryz.underlying9 (by kernel_rfl) rfl rfl rfl mp8) ?_;rw[hasc,Option.map_some,Option.getD_some];refine xp rfl (OpP.indexSlice Tryz.underlying76 H.sz3 rfl rfl k rfl rfl (by omega)) ?_;refine RW.op0 rfl rfl rfl (OpX.store H.sz3 rfl rfl rfl hcell3 hfz3) ?_;rintro _ g10 ⟨rfl,hg10⟩;have hg10:g10=setC g8 ⟨g1.size,0+k*1,none⟩ (.int .i64 ((i0:Nat):Int)):=hg10;have hB:=hset3 ((i0:Nat):Int);rw[←hg10] at hB;refine xd [0,1,5,7,8,9,10,12,15,17,47,48,49,59,60,61,92] rfl ?_;refine G.blkEnd ?_;refine G.reg Tryz.func43 rfl ?_;refine xp rfl (OpP.add64 rfl rfl ⟨by omega,by omega⟩) ?_;refine xqd 1 [0,1,5,7,8,9,10,12,15,17,47,48,49,59,60,61,92] rfl ?_;exact ih2 (k+1,seen,after++[((i0:Nat):Int)]) _ _ ⟨rfl,rfl,rfl,rfl,rfl,rfl,rfl,rfl,rfl,trivial⟩ (fin2 g8 g10 _ _ eg8 mp8 hB hg10 hcon2 (Nat.le_succ_of_le hsl)) (by show d.next.length-(k+1)<d.next.length-k;omega)
   · obtain rfl:k=d.next.length:=by omega
     rw[Nat.sub_self,List.replicate_zero,List.append_nil] at haf;rw[Nat.sub_self,classPass] at hcon2;subst hcon2;dsimp only at hcon hmore hend;have hm:=hend.size;have hsl':(seenK 0 seen).length=seen.length:=seenK_len seen 0
     have ha':OwE (Value.int .i64) g3 h.size 3 (.slice (some ⟨g1.size,0,none⟩) d.next.length d.next.length) after:=OwnH.raise (show OwnH g3 g1.size 3 1 _ after.length (after.map (Value.int .i64)) from haf) (fun b hb=>by
      cases hb;have:=eg.size;have:=e1'.size
      show h.size≤g1.size
      omega)
     refine G.exit rfl rfl ?_;refine xrd Tryz.func43 2 [0,1,5,7,8,9,47,48,49,50] rfl ?_;refine G.seq rfl ?_;refine xra Tryz.func43 1 rfl ?_;refine xp rfl (OpP.lenMap Tryz.underlying100 rfl (hmp)) ?_;rw[hsl'];refine xqd 2 [0,1,5,7,8,9,47,48,49,50,108] rfl ?_;refine G.ite rfl rfl (fun heq=>?_) (fun heq=>?_)
     · rw[if_pos (by omega)] at hcon;refine xrd Tryz.func43 2 [0,1,4,5,7,8,9,47,48,49,50,108] rfl ?_;refine G.ret Tryz.func43 rfl rfl ?_;exact⟨_,rfl,by rw[←hcon];exact ha',eg3⟩
     · rw[if_neg (by omega)] at hcon;refine G.skip rfl ?_;refine G.reg Tryz.func43 rfl ?_;refine xqp 1 rfl rfl (OpP.lenMap Tryz.underlying100 rfl (hmp)) ?_;rw[hsl'];refine xqd 1 [0,1,5,7,8,9,47,48,49,50,108] rfl ?_;refine G.blkEnd ?_;exact ih (n,seen.length,_,after) _ _ ⟨rfl,rfl,rfl,rfl,trivial⟩ ⟨eg3,ha',hal,fun x hx=>by have:=hend.bound x hx;omega,⟨by show seen.length≤_;omega,hend.nums,by show _≤n+seen.length;omega⟩,hcon⟩ (by show n<n+1;omega)
end
end Go.Proofs.YtfegacfjgjaghaaGreatDoor
namespace Go.Proofs.YtfegacfjgjaghaaGreatDoor
open Go
section
variable {of:List Nat}
def findC (cls:List Int):Nat→List Nat→Int→Option Nat
 |_,[],_=>none
 |i,x::r,c=>if c=cls.getD x 0 then some i else findC cls (i+1) r c
theorem findC_some {cls:List Int}:∀(of:List Nat) (i j:Nat) (c:Int),findC cls i of c=some j→i≤j∧∃x,of[j-i]? =some x∧c=cls.getD x 0
 | [],i,j,c,h=>by cases h
 |x::r,i,j,c,h=>by
  rw[findC] at h;split at h
  · rename_i e;cases h;exact⟨Nat.le_refl _,x,by simp,e⟩
  · obtain⟨h1,y,h2,h3⟩:=findC_some r (i+1) j c h;refine⟨by omega,y,?_,h3⟩;rw[show j-i=(j-(i+1))+1 by omega,List.getElem?_cons_succ];exact h2
theorem findC_none {cls:List Int}:∀(of:List Nat) (i:Nat) (c:Int),findC cls i of c=none→∀x∈of,c≠cls.getD x 0
 | [],i,c,h,x,hx=>by cases hx
 |y::r,i,c,h,x,hx=>by
  rw[findC] at h;split at h
  · cases h
  · rename_i hn
    rcases List.mem_cons.1 hx with e|e
    · subst e;exact hn
    · exact findC_none r (i+1) c h x e
def minStep (live:List Bool) (cls:List Int) (of:List Nat) (t:Int):List Nat×Int :=
 if t<0∨live.getD t.toNat false=false then (of,-1) else
  match findC cls 0 of (cls.getD t.toNat 0) with
  |some i=>(of,(i:Int))
  |none=>(of++[t.toNat],(of.length:Int))
def minRow (live:List Bool) (cls:List Int):List Int→List Nat→List Int→List Nat×List Int
 | [],of,row=>(of,row)
 |t::r,of,row=>minRow live cls r (minStep live cls of t).1 (row++[(minStep live cls of t).2])
def minG (d:Tab) (live:List Bool) (cls:List Int):Nat→Nat→List Nat→List Row→List Int→Tab
 | 0,_,_,next,rule=>⟨next,rule⟩
 |n+1,i,of,next,rule =>
  match of[i]? with
  |none=>⟨next,rule⟩
  |some k=>minG d live cls n (i+1) (minRow live cls (d.row k) of []).1 (next++[mkRow (minRow live cls (d.row k) of []).2]) (rule++[d.ru k])
def minP (d:Tab):Tab:=if d.next.length=0 then ⟨[],[]⟩ else minG d (liveP d) (classP d (liveP d)) (d.next.length+1) 0 [0] [] []
structure OfOk (n:Nat) (of:List Nat):Prop where
 once:of.Nodup
 lt:∀x∈of,x<n
theorem once_len:∀(n:Nat) (l:List Nat),l.Nodup→(∀x∈l,x<n)→l.length≤n
 | 0,[],_,_=>Nat.le_refl _
 | 0,x::l,_,h=>absurd (h x (by simp)) (Nat.not_lt_zero _)
 |n+1,l,hl,h=>by
  have h1:=once_len n (l.erase n) (hl.erase n) (fun x hx=>by
   have:=(hl.mem_erase_iff).1 hx;have:=h x this.2;omega)
  by_cases hn:n∈l
  · have:=List.length_erase_of_mem hn;omega
  · rw[List.erase_of_not_mem hn] at h1;omega
theorem OfOk.len {n:Nat}(k:OfOk n of):of.length≤n:=once_len n of k.once k.lt
theorem minStep_ok {live:List Bool}{cls:List Int}{n:Nat}{t:Int}(k:OfOk n of) (ht:t<n):OfOk n (minStep live cls of t).1:=by
 unfold minStep;split
 · exact k
 · rename_i hn;split
   · exact k
   · rename_i hf;have hne:=findC_none of 0 _ hf;refine⟨List.nodup_append.2 ⟨k.once,by simp,fun a ha b hb e=>?_⟩,fun x hx=>?_⟩
     · have:b=t.toNat:=by simpa using hb
       subst e;subst this;exact hne _ ha rfl
     · rcases List.mem_append.1 hx with e|e
       · exact k.lt x e
       · have:x=t.toNat:=by simpa using e
         omega
theorem minStep_ge {live:List Bool}{cls:List Int}{t:Int}:of.length≤(minStep live cls of t).1.length∧∀(i x:Nat),of[i]? =some x→(minStep live cls of t).1[i]? =some x:=by
 unfold minStep;split
 · exact⟨Nat.le_refl _,fun _ _ h=>h⟩
 · split
   · exact⟨Nat.le_refl _,fun _ _ h=>h⟩
   · exact⟨by simp,fun i x h=>by rw[List.getElem?_append_left (List.getElem?_eq_some_iff.1 h).1];exact h⟩
end
end Go.Proofs.YtfegacfjgjaghaaGreatDoor
namespace Go.Proofs.YtfegacfjgjaghaaGreatDoor
open Go Go.Lw
set_option maxRecDepth 20000
section
variable {v3:Value}{n:Nat}
def seenC (cls:List Int):Nat→List Nat→List (Int×Int)
 |_,[]=>[]
 |i,x::r=>(cls.getD x 0,(i:Int))::seenC cls (i+1) r
theorem seenC_snoc (cls:List Int):∀(ls:List Nat) (i:Nat) (l:Nat),seenC cls i (ls++[l])=seenC cls i ls++[(cls.getD l 0,((i+ls.length:Nat):Int))]
 | [],i,l=>by simp[seenC]
 |x::r,i,l=>by
  simp only[List.cons_append,seenC];rw[seenC_snoc cls r (i+1) l,List.length_cons,show i+1+r.length=i+(r.length+1) by omega]
theorem asc_seenC (cls:List Int):∀(ls:List Nat) (i:Nat) (c:Int),asc c (seenC cls i ls)=(findC cls i ls c).map fun j=>(j:Int)
 | [],i,c=>rfl
 |x::r,i,c=>by
  rw[seenC,asc,findC]
  by_cases h:c=cls.getD x 0
  · rw[if_pos h,if_pos h];rfl
  · rw[if_neg h,if_neg h];exact asc_seenC cls r (i+1) c
structure MinAt (h0 h:Heap) (cls:List Int) (db mb:Nat) (vo vn vr:Value) (of:List Nat) (next:List Row) (rule:List Int):Prop where
 ext:Ext0 h0 h
 dblk:Blk h db 98 [vn,vr]
 nx:OwR 256 encRow h h0.size 102 vn next
 ru:OwE (Value.int .i64) h h0.size 3 vr rule
 ol:OwE encN h h0.size 3 vo of
 mp:MapH (Value.int .i64) (Value.int .i64) h mb (seenC cls 0 of)
 ne:∀b,vo.ownBlock=some b→vr.ownBlock≠some b
 dge:h0.size≤db
 mge:h0.size≤mb
section
variable {h0 h:Heap}{cls:List Int}{db mb:Nat}{vo vn vr:Value}{of:List Nat}{next:List Row}{rule:List Int}
theorem MinAt.nty (k:MinAt h0 h cls db mb vo vn vr of next rule):∀b,vn.ownBlock=some b→TyAt h b 102:=fun _ hb=>OwnH.ty k.nx hb
theorem MinAt.rty (k:MinAt h0 h cls db mb vo vn vr of next rule):∀b,vr.ownBlock=some b→TyAt h b 3:=fun _ hb=>OwnH.ty k.ru hb
theorem MinAt.oty (k:MinAt h0 h cls db mb vo vn vr of next rule):∀b,vo.ownBlock=some b→TyAt h b 3:=fun _ hb=>OwnH.ty k.ol hb
theorem MinAt.ext0 {h':Heap}(k:MinAt h0 h cls db mb vo vn vr of next rule) (e:Ext0 h h'):MinAt h0 h' cls db mb vo vn vr of next rule :=
 ⟨k.ext.trans e,k.dblk.ext0 e,OwR.ext0 k.nx e,OwE.ext0 k.ru e,OwE.ext0 k.ol e,k.mp.ext e (fun k=>k),k.ne,k.dge,k.mge⟩
theorem MinAt.put {h':Heap}{x:Nat}(k:MinAt h0 h cls db mb vo vn vr of next rule) (e:Ext (fun b=>b=x) h h') (hx:TyAt h x 102) (hn:vn.ownBlock≠some x) (hge:h0.size≤x):MinAt h0 h' cls db mb vo vn vr of next rule:=by
 have hd:¬db=x:=k.dblk.ty.ne hx (by decide);have hm:¬mb=x:=k.mp.ne hx;exact⟨Ext0.only k.ext e hge,k.dblk.ext e hd,OwnH.ext e k.nx (fun b hb hbx=>hn (by subst hbx;exact hb)),OwnH.ext e k.ru (fun b hb=>(k.rty b hb).ne hx (by decide)),OwnH.ext e k.ol (fun b hb=>(k.oty b hb).ne hx (by decide)),k.mp.ext e hm,k.ne,k.dge,k.mge⟩
theorem MinAt.setN {g3 g4:Heap}{r:Row}(k:MinAt h0 h cls db mb vo vn vr of next rule) (hn:n=next.length) (ho:OwnH g3 h0.size 102 256 v3 (n+1) (next.flatMap encRow++encRow r)) (hx:Ext (but vn.ownBlock) h g3) (hd:Blk g4 db 98 [v3,vr]) (x4:Ext (fun b=>b=db) g3 g4) :
 MinAt h0 g4 cls db mb vo v3 vr of (next++[r]) rule:=by
 have nne:∀{b:Nat}{t:TypeId},TyAt h b t→102≠t→¬but vn.ownBlock b:=fun kt ht e=>(k.nty _ e.symm).ne kt ht rfl
 have d3:=k.dblk.ext hx (nne k.dblk.ty (by decide));have dne:∀{b:Nat}{t:TypeId},TyAt g3 b t→98≠t→¬b=db:=fun kt ht e=>by subst e;exact d3.ty.ne kt ht rfl
 have mne:¬but vn.ownBlock mb:=fun e=>k.mp.ne (k.nty _ e.symm) rfl
 have hm3:=k.mp.ext hx mne;have ru3:=OwnH.ext hx k.ru (fun b hb=>nne (k.rty b hb) (by decide));have of3:=OwnH.ext hx k.ol (fun b hb=>nne (k.oty b hb) (by decide));refine⟨⟨by have:=k.ext.size;have:=hx.size;have:=x4.size;omega,fun b hb kk=>?_⟩,hd,?_,OwnH.ext x4 ru3 (fun b hb=>dne (OwnH.ty ru3 hb) (by decide)),OwnH.ext x4 of3 (fun b hb=>dne (OwnH.ty of3 hb) (by decide)),hm3.ext x4 (hm3.ne d3.ty),k.ne,k.dge,k.mge⟩
 · rw[x4.block b (by have:=k.ext.size;have:=hx.size;omega) (by have:=k.dge;omega),hx.block b (by have:=k.ext.size;omega) (fun e=>by have:=(OwnH.lt k.nx e.symm).1;omega)];exact k.ext.block b hb kk
 · exact OwnH.ext x4 (OwR.of ho hn rfl) (fun b hb=>dne (OwnH.ty ho hb) (by decide))
theorem MinAt.setR {g3 g4:Heap}{x:Int}(k:MinAt h0 h cls db mb vo vn vr of next rule) (hn:n=rule.length) (ho:OwnH g3 h0.size 3 1 v3 (n+1) (rule.map (Value.int .i64)++[.int .i64 x])) (hx:Ext (but vr.ownBlock) h g3) (hv:∀b,v3.ownBlock=some b→vr.ownBlock=some b∨h.size≤b) (hd:Blk g4 db 98 [vn,v3]) (x4:Ext (fun b=>b=db) g3 g4) :
 MinAt h0 g4 cls db mb vo vn v3 of next (rule++[x]):=by
 have nne:∀{b:Nat}{t:TypeId},TyAt h b t→3≠t→¬but vr.ownBlock b:=fun kt ht e=>(k.rty _ e.symm).ne kt ht rfl
 have d3:=k.dblk.ext hx (nne k.dblk.ty (by decide));have dne:∀{b:Nat}{t:TypeId},TyAt g3 b t→98≠t→¬b=db:=fun kt ht e=>by subst e;exact d3.ty.ne kt ht rfl
 have mne:¬but vr.ownBlock mb:=fun e=>k.mp.ne (k.rty _ e.symm) rfl
 have hm3:=k.mp.ext hx mne;have nx3:=OwnH.ext hx k.nx (fun b hb=>nne (k.nty b hb) (by decide));have of3:=OwnH.ext hx k.ol (fun b hb e=>k.ne b hb e.symm);refine⟨⟨by have:=k.ext.size;have:=hx.size;have:=x4.size;omega,fun b hb kk=>?_⟩,hd,OwnH.ext x4 nx3 (fun b hb=>dne (OwnH.ty nx3 hb) (by decide)),?_,OwnH.ext x4 of3 (fun b hb=>dne (OwnH.ty of3 hb) (by decide)),hm3.ext x4 (hm3.ne d3.ty),fun b hb e=>?_,k.dge,k.mge⟩
 · rw[x4.block b (by have:=k.ext.size;have:=hx.size;omega) (by have:=k.dge;omega),hx.block b (by have:=k.ext.size;omega) (fun e=>by have:=(OwnH.lt k.ru e.symm).1;omega)];exact k.ext.block b hb kk
 · exact OwnH.ext x4 (OwE.of (ys:=[x]) ho hn rfl rfl) (fun b hb=>dne (OwnH.ty ho hb) (by decide))
 · rcases hv b e with e|e
   · exact k.ne b hb e
   · have:=(k.oty b hb).lt;omega
theorem MinAt.more {g1 g2:Heap}{t:Nat}(k:MinAt h0 h cls db mb vo vn vr of next rule) (x1:Ext (fun b=>b=mb) h g1) (hm:MapH (Value.int .i64) (Value.int .i64) g1 mb (seenC cls 0 (of++[t]))) (hn:n=of.length) (ho:OwnH g2 h0.size 3 1 v3 (n+1) (of.map encN++[encN t])) (hx:Ext (but vo.ownBlock) g1 g2) (hv:∀b,v3.ownBlock=some b→vo.ownBlock=some b∨g1.size≤b) :
 MinAt h0 g2 cls db mb v3 vn vr (of++[t]) next rule:=by
 have mne:∀{b:Nat}{t:TypeId},TyAt h b t→¬b=mb:=fun kt e=>k.mp.ne kt e.symm
 have d1:=k.dblk.ext x1 (mne k.dblk.ty);have nx1:=OwnH.ext x1 k.nx (fun b hb=>mne (k.nty b hb));have ru1:=OwnH.ext x1 k.ru (fun b hb=>mne (k.rty b hb));have of1:=OwnH.ext x1 k.ol (fun b hb=>mne (k.oty b hb));have one:∀{b:Nat}{t:TypeId},TyAt g1 b t→3≠t→¬but vo.ownBlock b:=fun kt ht e=>(show TyAt g1 _ 3 from OwnH.ty of1 e.symm).ne kt ht rfl
 refine⟨⟨by have:=k.ext.size;have:=hx.size;have:=x1.size;omega,fun b hb kk=>?_⟩,d1.ext hx (one d1.ty (by decide)),OwnH.ext hx nx1 (fun b hb=>one (OwnH.ty nx1 hb) (by decide)),OwnH.ext hx ru1 (fun b hb e=>k.ne b e.symm hb),OwE.of (ys:=[t]) ho hn rfl rfl,hm.ext hx (fun e=>hm.ne (OwnH.ty of1 e.symm) rfl),fun b hb e=>?_,k.dge,k.mge⟩
 · rw[hx.block b (by have:=k.ext.size;have:=x1.size;omega) (fun e=>by have:=(OwnH.lt k.ol e.symm).1;omega),x1.block b (by have:=k.ext.size;omega) (by have:=k.mge;omega)];exact k.ext.block b hb kk
 · rcases hv b hb with e'|e'
   · exact k.ne b e' e
   · have:=(show TyAt g1 _ 3 from OwnH.ty ru1 e).lt;omega
end
theorem liveG_len (d:Tab):∀(n:Nat) (out:List Bool),(liveG d n out).length=out.length
 | 0,_=>rfl
 |n+1,out=>by
  rw[liveG];split
  · rw[liveG_len d n,livePass_len]
  · rw[livePass_len]
theorem liveP_len (d:Tab):(liveP d).length=d.next.length:=by rw[liveP,liveG_len];simp
theorem classG_len (d:Tab) (live:List Bool):∀(n many:Nat) (cls:List Int),cls.length=d.next.length→(classG d live n many cls).length=d.next.length
 | 0,_,_,h=>h
 |n+1,many,cls,h=>by
  rw[classG];split
  · exact(classPass_end d live cls).len
  · exact classG_len d live n _ _ (classPass_end d live cls).len
theorem classP_len (d:Tab) (live:List Bool) (h:d.rule.length=d.next.length):(classP d live).length=d.next.length:=classG_len d live _ _ _ h
def TabRdO (h:Heap) (O:Nat→Prop) (db:Nat) (d:Tab):Prop :=
 ∃vn vr,¬O db∧Blk h db 98 [vn,vr]∧SlR eRowD h O vn d.next∧SlR (.int .i64) h O vr d.rule
theorem TabRdO.mv {h h':Heap}{O O':Nat→Prop}{db:Nat}{d:Tab}(k:TabRdO h O db d) (m:Mv O O' h h'):TabRdO h' O' db d:=by
 obtain⟨vn,vr,ho,hk,h1,h2⟩:=k;have hm:=m.block db hk.lt ho;exact⟨vn,vr,hm.2,hm.1.trans hk,h1.mv m,h2.mv m⟩
theorem TabRdO.rd {h:Heap}{O:Nat→Prop}{db:Nat}{d:Tab}(k:TabRdO h O db d):TabRd h db d:=by
 obtain⟨vn,vr,ho,hk,h1,h2⟩:=k;exact⟨vn,vr,hk,SlR.less h1 (fun _ k=>k.elim),SlR.less h2 (fun _ k=>k.elim)⟩
theorem dmin_new {h:Heap}{db:Nat}{d:Tab}(htens:Tens h) (k:TabRd h db d) (hok:d.Ok) (hd0:0<d.next.length) :
 CallsH Tryz.prog 24 #[.pointer (some ⟨db,0,none⟩)] h (Ret fun r h'=>(∃b,r= .pointer (some ⟨b,0,none⟩)∧TabRdO h' (fun g=>g<h.size) b (minP d))∧Ext0 h h'):=by
 have hlen:=hok.len;have hsize:=hok.size;generalize hres:minP d=res;refine CallsH.of Tryz.func24 rfl rfl ?_;refine xrd Tryz.func24 1 [0,2] rfl ?_;refine G.seq rfl ?_;refine xra Tryz.func24 1 rfl ?_;refine xo rfl (OpX.call (vs:=[_]) Tryz.func41 rfl H.nm41 rfl (CallsH.toX (dnone_at k))) ?_;rintro _ h0 ⟨rfl,hh0⟩;subst hh0;refine xd [0,2,15] rfl ?_;refine G.ite rfl rfl (fun hz=>?_) (fun hz=>?_)
 · refine xrd Tryz.func24 1 [0,2,15] rfl ?_;refine G.ret Tryz.func24 rfl rfl ?_;exfalso;omega
 · rw[minP,if_neg hz] at hres;have hll:=liveP_len d;have hcl:=classP_len d (liveP d) hlen;refine G.skip rfl ?_;refine xra Tryz.func24 1 rfl ?_;refine xo rfl (OpX.call (vs:=[_]) Tryz.func42 rfl H.nm42 rfl (CallsH.toX (live_calls k hok))) ?_;rintro w3 h1 ⟨ho1,e1⟩;generalize liveP d=live at *;obtain⟨la,lc,rfl,_⟩:=(show OwnH h1 h0.size 4 1 w3 live.length (live.map Value.bool) from ho1).open;refine xqd 1 [0,2,3,15] rfl ?_;refine xra Tryz.func24 2 rfl ?_;refine xo rfl (OpX.call (vs:=[_,_]) Tryz.func43 rfl H.nm43 rfl (CallsH.toX (classes_calls (htens.ext0 e1) (k.ext0 e1) hok (OwE.read (O:=fun _=>False) (h1:=fun _=>rfl) ho1 (fun _ _ k=>k)) hll))) ?_;rintro w4 h2 ⟨ho2,e2⟩;generalize classP d live=cls at *;obtain⟨ca,cc,rfl,_⟩:=(show OwnH h2 h1.size 3 1 w4 cls.length (cls.map (Value.int .i64)) from ho2).open;have ho1:=OwE.ext0 ho1 e2;have k2:=(k.ext0 e1).ext0 e2;have hsV:SlR .bool h2 (fun _=>False) (.slice la live.length lc) live:=OwE.read (h1:=fun _=>rfl) ho1 (fun _ _ k=>k);have hsC:SlR (.int .i64) h2 (fun _=>False) (.slice ca cls.length cc) cls:=OwE.read (h1:=fun _=>rfl) ho2 (fun _ _ k=>k);rw[hll] at hsV;rw[hcl] at hsC;rw[hll,hcl];obtain⟨c0,hc0⟩:∃c0,cls[0]? =some c0:=⟨_,List.getElem?_eq_getElem (by omega)⟩
   have hcd0:cls.getD 0 0=c0:=by rw[List.getD_eq_getElem?_getD,hc0];rfl
   refine xqd 1 [0,2,3,4,15] rfl ?_;refine xr Tryz.func24 rfl ?_;refine xp rfl (OpP.build (H.bd98_ ) rfl) ?_;refine xo rfl (OpX.boxN rfl) ?_;rintro _ h3 ⟨rfl,kd3,e3,z3⟩;refine xqd 1 [0,2,3,4,5,15] rfl ?_;refine xr Tryz.func24 rfl ?_;refine xo rfl (OpX.makeMap (ek:=Value.int .i64) (ev:=Value.int .i64)) ?_;rintro _ h4 ⟨rfl,hm4,e4,z4⟩;have kd3:Blk h3 h2.size 98 [.slice none 0 0,.slice none 0 0]:=kd3;have e34:=e3.trans e4;obtain⟨oa',n',c',hv',_,_,_,hgetc⟩:=id (hsC.mv (Mv.ext0 e34));cases hv';obtain⟨b3,o3,cs3,ha3,_,hrow3,rfl⟩:=hgetc 0 c0 hc0;refine xqp 1 rfl rfl (OpP.indexSlice Tryz.underlying76 H.sz3 rfl rfl 0 rfl ha3 (by omega)) ?_;refine xp rfl (OpP.load H.ag3 rfl (hrow3 0 _ rfl)) ?_;refine RW.op0 rfl rfl rfl (OpX.insert (v:=(0:Int)) (KeyE.int .i64) Tryz.underlying109 Tryz.underlying3 rfl rfl rfl rfl rfl hm4 (rfl:asc c0 []=none)) ?_;rintro _ h5 ⟨rfl,hm5,x5,z5⟩;have hm5:MapH (Value.int .i64) (Value.int .i64) h5 h3.size (seenC cls 0 [0]):=by rw[seenC,hcd0];exact hm5
   have hz3:=e3.size;have e25:Ext0 h2 h5:=Ext0.only e34 x5 hz3;have kd5:Blk h5 h2.size 98 [.slice none 0 0,.slice none 0 0]:=(kd3.ext0 e4).ext x5 (by show ¬_=_;omega);refine xqd 2 [0,2,3,4,5,6,15] rfl ?_;refine xr Tryz.func24 rfl ?_;refine xo rfl (OpX.buildOnes (us:=[_]) Tryz.underlying76 H.el3 rfl rfl (by decide) (by simp[Value.oneCell'])) ?_;rintro _ _ ⟨rfl,rfl⟩;refine xqd 1 [0,2,3,4,5,6,7,15] rfl ?_;refine G.seq rfl ?_;refine xrd Tryz.func24 1 [0,2,3,4,5,6,7,8,15] rfl ?_;refine G.block rfl rfl ?_;have e56:Ext0 h5 (h5.push (.cells #[.int .i64 0] 3)):=Ext.push _ _ _;have ol6:OwE encN (h5.push (.cells #[.int .i64 0] 3)) h2.size 3 (.slice (some ⟨h5.size,0,none⟩) 1 1) [0]:=OwE.made encN h5 3 [0] 1 rfl (by decide) h2.size e25.size rfl;generalize h5.push (.cells #[.int .i64 0] 3)=h6 at *
   have mk6:MinAt h2 h6 cls h2.size h3.size (.slice (some ⟨h5.size,0,none⟩) 1 1) (.slice none 0 0) (.slice none 0 0) [0] [] [] :=
    ⟨e25.trans e56,kd5.ext0 e56,OwR.nil _ _ _ _ _,OwE.nil _ _ _ _,ol6,hm5.ext e56 (fun k=>k),fun b _ hb=>(by cases hb),Nat.le_refl _,hz3⟩
   refine G.loop (σ:=Nat×Value) (fun q=>[(0,.pointer (some ⟨db,0,none⟩)),(3,.slice la d.next.length lc),(4,.slice ca d.next.length cc),(5,.pointer (some ⟨h2.size,0,none⟩)),(6,.map (some h3.size)),(7,q.2),(8,.int .i64 (q.1:Nat))]) (fun q h'=>∃vn vr of next rule,MinAt h2 h' cls h2.size h3.size q.2 vn vr of next rule∧q.1≤of.length∧OfOk d.next.length of∧(next.length=q.1∧rule.length=q.1)∧minG d live cls (d.next.length+1-q.1) q.1 of next rule=res) (fun q=>d.next.length+1-q.1) ((0,.slice (some ⟨h5.size,0,none⟩) 1 1)) rfl ⟨rfl,rfl,rfl,rfl,rfl,rfl,rfl,trivial⟩ ⟨_,_,[0],[],[],mk6,Nat.zero_le _,⟨by simp,fun x hx=>by simp at hx;omega⟩,⟨rfl,rfl⟩,hres⟩ ?_;rintro⟨i,vl⟩ g ⟨vn,vr,of,next,rule,mk,hi,hok2,⟨hnl,hrl⟩,hcon⟩ ih
   try dsimp only
   dsimp only at mk hi hnl hrl hcon;have hofl:=hok2.len;obtain⟨oa,oc,rfl,_⟩:=(show OwnH g h2.size 3 1 vl of.length (of.map encN) from mk.ol).open;have mkg:=mk;refine G.seq rfl ?_;refine xra Tryz.func24 2 rfl ?_;refine xp rfl (OpP.lenSlice Tryz.underlying76 rfl) ?_;refine xqd 1 [0,3,4,5,6,7,8,32] rfl ?_;refine G.ite rfl rfl (fun hlt=>?_) (fun hlt=>?_)
   · have hil:i<of.length:=by omega
     obtain⟨kk,hcur⟩:∃kk,of[i]? =some kk:=⟨_,List.getElem?_eq_getElem hil⟩
     have hkN:=hok2.lt kk (List.mem_of_getElem? hcur);obtain⟨n,hnn⟩:∃n,d.next.length+1-i=n+1:=⟨d.next.length-i,by omega⟩
     rw[hnn,minG,hcur] at hcon;simp only at hcon;obtain⟨r,hr⟩:∃r,d.next[kk]? =some r:=⟨_,List.getElem?_eq_getElem hkN⟩
     have hrow:d.row kk=r.v:=by unfold Tab.row;rw[hr]
     rw[hrow] at hcon;generalize htgt:minRow live cls r.v of []=tgt at hcon;refine G.skip rfl ?_;refine G.seq rfl ?_;refine G.block rfl rfl ?_;refine xr Tryz.func24 rfl ?_;refine xo rfl (OpX.allocN H.zr102) ?_;rintro _ g1 ⟨rfl,kz,ez,zz⟩;have kz:Blk g1 g.size 102 (([]:List Int).map (Value.int .i64)++List.replicate (256-0) (Value.int .i64 0)):=kz;have mk1:=mk.ext0 ez;have hvz:vn.ownBlock≠some g.size:=fun e=>by have:=(mk.nty _ e).lt;omega
     obtain⟨vn0,vr0,kd,⟨na,nn,nc,rfl,hnl0,hnc,hnm,hgetn⟩,hsR⟩:=id (k2.ext0 mk1.ext);subst hnl0;obtain⟨b1,o1,cs1,ha1,_,hrow1,rfl⟩:=hgetn kk r hr;obtain⟨gg,c4,hv4,_,_,hcell,_,_⟩:=mk1.ol.at hcur;have hoa:oa=some ⟨gg,0,none⟩:=by cases hv4;rfl
     refine xd [0,3,4,5,6,7,8,9,32] rfl ?_;refine G.seq rfl ?_;refine G.seq rfl ?_;refine G.drawQ Tryz.func24 H.mixed rfl (by kernel_rfl) ?_;refine RQ.pureS rfl rfl rfl rfl (OpP.move rfl) ?_;refine RQ.pureS rfl rfl rfl rfl (OpP.nilCheck rfl) ?_;refine RQ.pureS rfl rfl rfl rfl (OpP.fieldAddr (off:=0) Tryz.underlying98 rfl rfl H.sz96 rfl) ?_;refine RQ.pureS rfl rfl rfl rfl (OpP.load H.ag96 rfl (kd.cell (i:=0) rfl)) ?_;refine RQ.pureS rfl rfl rfl rfl (OpP.move rfl) ?_;refine RQ.pureS rfl rfl rfl rfl (OpP.move rfl) ?_;refine RQ.pureS rfl rfl rfl rfl (OpP.indexSlice Tryz.underlying76 H.sz3 rfl rfl i rfl hoa (by omega)) ?_;refine RQ.pureS rfl rfl rfl rfl (OpP.load H.ag3 rfl hcell) ?_;refine RQ.pureS rfl rfl rfl rfl (OpP.indexSlice Tryz.underlying96 H.sz102 rfl rfl kk rfl ha1 (by omega)) ?_;refine RQ.pureS rfl rfl rfl rfl (OpP.loadRowN H.ag102 H.sz102 rfl hrow1 (by first|rfl|(simp;done)|(simp;omega))) ?_;refine RQ.pureS rfl rfl rfl rfl (OpP.move rfl) ?_;refine RQ.done rfl ?_;refine xu [0,3,4,5,6,7,8,9,32,44,45] rfl ?_;refine G.block rfl rfl ?_;refine G.loop (σ:=Nat×Value) (fun q=>[(0,.pointer (some ⟨db,0,none⟩)),(3,.slice la d.next.length lc),(4,.slice ca d.next.length cc),(5,.pointer (some ⟨h2.size,0,none⟩)),(6,.map (some h3.size)),(7,q.2),(8,.int .i64 (i:Nat)),(9,.pointer (some ⟨g.size,0,none⟩)),(44,.agg (encRow r).toArray),(45,.int .i64 (q.1:Nat))]) (fun q h'=>∃of' row,MinAt h2 h' cls h2.size h3.size q.2 vn vr of' next rule∧(q.1≤256∧row.length=q.1)∧Blk h' g.size 102 (row.map (Value.int .i64)++List.replicate (256-q.1) (Value.int .i64 0))∧of'[i]? =some kk∧OfOk d.next.length of'∧minRow live cls (r.v.drop q.1) of' row=tgt) (fun q=>256-q.1) ((0,.slice oa of.length oc)) rfl ⟨rfl,rfl,rfl,rfl,rfl,rfl,rfl,rfl,rfl,rfl,trivial⟩ ⟨of,[],mk1,⟨Nat.zero_le _,rfl⟩,kz,hcur,hok2,htgt⟩ ?_;rintro⟨b,vl⟩ g2 ⟨of,row,mk,⟨hb,hrlen⟩,kz,hcur,hok2,hrow⟩ ih2
     try dsimp only
     dsimp only at mk hb hrlen kz hrow;have hofl:=hok2.len;obtain⟨oa,oc,rfl,_⟩:=(show OwnH g2 h2.size 3 1 vl of.length (of.map encN) from mk.ol).open;refine xrd Tryz.func24 1 [0,3,4,5,6,7,8,9,44,45,46] rfl ?_;refine G.seq rfl ?_;refine G.ite rfl rfl (fun hb256=>?_) (fun hb256=>?_)
     · have hb2:b<256:=by omega
       obtain⟨t,ht⟩:∃t,r.v[b]? =some t:=⟨_,List.getElem?_eq_getElem (by rw[r.len];exact hb2)⟩
       have htm:=hok.to r (List.mem_of_getElem? hr) t (List.mem_of_getElem? ht);have hdrop:r.v.drop b=t::r.v.drop (b+1):=by rw[List.drop_eq_getElem_cons (by rw[r.len];exact hb2),(List.getElem?_eq_some_iff.1 ht).2]
       rw[hdrop,minRow] at hrow;have hso:=minStep_ok (live:=live) (cls:=cls) (t:=t) hok2 htm.2;have hsg:=(minStep_ge (live:=live) (cls:=cls) (of:=of) (t:=t)).2 i kk hcur;have hcells:(row.map (Value.int .i64)++List.replicate (256-b) (Value.int .i64 0)).length=256:=by simp[hrlen];omega
       have hset:∀to:Int,(row.map (Value.int .i64)++List.replicate (256-b) (Value.int .i64 0)).set (0+b*1) (.int .i64 to)=(row++[to]).map (Value.int .i64)++List.replicate (256-(b+1)) (Value.int .i64 0):=fun to=>by
        rw[Nat.zero_add,Nat.mul_one,List.set_append_right _ _ (by simp;omega),show 256-b=(256-(b+1))+1 by omega,List.replicate_succ];have:b-(row.map (Value.int .i64)).length=0:=by simp;omega
        rw[this,List.set_cons_zero];simp
       have hblt:0+b*1<(row.map (Value.int .i64)++List.replicate (256-b) (Value.int .i64 0)).length:=by rw[hcells];omega
       have hzge:h2.size≤g.size:=mkg.ext.size
       have fin:∀(gA gB:Heap) (vA:Value) (ofA:List Nat) (to:Int),MinAt h2 gA cls h2.size h3.size vA vn vr ofA next rule→Blk gA g.size 102 (row.map (Value.int .i64)++List.replicate (256-b) (Value.int .i64 0))→gB=setC gA ⟨g.size,0+b*1,none⟩ (.int .i64 to)→minStep live cls of t=(ofA,to)→∃of' row,MinAt h2 gB cls h2.size h3.size vA vn vr of' next rule∧(b+1≤256∧row.length=b+1)∧Blk gB g.size 102 (row.map (Value.int .i64)++List.replicate (256-(b+1)) (Value.int .i64 0))∧of'[i]? =some kk∧OfOk d.next.length of'∧minRow live cls (r.v.drop (b+1)) of' row=tgt:=by
        rintro gA gB vA ofA to mA kA hgB hst;have k6:=kA.set (0+b*1) (.int .i64 to);rw[←hgB,hset] at k6;have x6:Ext (fun y=>y=g.size) gA gB:=by rw[hgB];exact Ext.setC _ _ _ rfl
        rw[hst] at hso hsg hrow;exact⟨ofA,row++[to],mA.put x6 kA.ty hvz hzge,⟨hb2,by simp[hrlen]⟩,k6,hsg,hso,hrow⟩
       refine G.skip rfl ?_;refine G.seq rfl ?_;refine G.block rfl rfl ?_;refine xra Tryz.func24 1 rfl ?_;refine xp rfl (OpP.indexAgg Tryz.underlying102 H.sz3 H.ag3 rfl rfl b rfl hb2 (show (encRow r).toArray[b]? =some (Value.int .i64 t) by simp[encRow,ht])) ?_;refine xqd 2 [0,3,4,5,6,7,8,9,10,11,44,45,46] rfl ?_;refine G.seq rfl ?_;refine xra Tryz.func24 3 rfl ?_;refine RW.split (d:=51) rfl (fun hg=>?_) (fun hg=>?_)
       · have hg':=of_decide_eq_true hg;refine xqd 6 [0,3,4,5,6,7,8,9,10,11,44,45,46,57] rfl ?_;refine G.cond rfl rfl (fun _=>?_) (fun hc=>absurd hc (by simp));refine xra Tryz.func24 1 rfl ?_;refine xp rfl (OpP.indexArr Tryz.underlying102 H.sz3 rfl rfl b rfl (by omega)) ?_;refine RW.op0 rfl rfl rfl (OpX.store H.sz3 rfl rfl rfl (kz.cell (List.getElem?_eq_getElem hblt)) kz.nf) ?_;rintro _ g6 ⟨rfl,hg6⟩;have ff:=fin g2 g6 _ of (-1) mk kz hg6 (by rw[minStep,if_pos (.inl hg')]);refine xd [0,3,4,5,6,7,8,9,10,11,44,45,46,57] rfl ?_;refine G.exit rfl rfl ?_;refine G.reg Tryz.func24 rfl ?_;refine xp rfl (OpP.add64 rfl rfl ⟨by omega,by omega⟩) ?_;refine xqd 1 [0,3,4,5,6,7,8,9,10,11,44,45,46,57] rfl ?_;exact ih2 (b+1,_) _ _ ⟨rfl,rfl,rfl,rfl,rfl,rfl,rfl,rfl,rfl,rfl,trivial⟩ ff (by show 256-(b+1)<256-b;omega)
       · have hg':=of_decide_eq_false hg;obtain⟨t2,rfl⟩:=Int.eq_ofNat_of_zero_le (show 0≤t by omega);obtain⟨bt,hbt⟩:∃bt,live[t2]? =some bt:=⟨_,List.getElem?_eq_getElem (by omega)⟩
         have hlt2:live.getD t2 false=bt:=by rw[List.getD_eq_getElem?_getD,hbt];rfl
         obtain⟨oa',n',c',hv',_,_,_,hgetv⟩:=id (hsV.mv (Mv.ext0 mk.ext));cases hv';obtain⟨b3,o3,cs3,ha3,_,hrow3,rfl⟩:=hgetv t2 bt hbt;refine xqp 2 rfl rfl (OpP.indexSlice Tryz.underlying106 H.sz4 rfl rfl t2 rfl ha3 (by omega)) ?_;refine xp rfl (OpP.load H.ag4 rfl (hrow3 0 _ rfl)) ?_;refine xqd 2 [0,3,4,5,6,7,8,9,10,11,44,45,46,57] rfl ?_;refine G.cond rfl rfl (fun hb=>?_) (fun hb=>?_)
         · have hb':bt=false:=by simpa using hb
           refine xra Tryz.func24 1 rfl ?_;refine xp rfl (OpP.indexArr Tryz.underlying102 H.sz3 rfl rfl b rfl (by omega)) ?_;refine RW.op0 rfl rfl rfl (OpX.store H.sz3 rfl rfl rfl (kz.cell (List.getElem?_eq_getElem hblt)) kz.nf) ?_;rintro _ g6 ⟨rfl,hg6⟩;have ff:=fin g2 g6 _ of (-1) mk kz hg6 (by rw[minStep,if_pos (.inr (by show live.getD t2 false=false;rw[hlt2,hb']))]);refine xd [0,3,4,5,6,7,8,9,10,11,44,45,46,57] rfl ?_;refine G.exit rfl rfl ?_;refine G.reg Tryz.func24 rfl ?_;refine xp rfl (OpP.add64 rfl rfl ⟨by omega,by omega⟩) ?_;refine xqd 1 [0,3,4,5,6,7,8,9,10,11,44,45,46,57] rfl ?_;exact ih2 (b+1,_) _ _ ⟨rfl,rfl,rfl,rfl,rfl,rfl,rfl,rfl,rfl,rfl,trivial⟩ ff (by show 256-(b+1)<256-b;omega)
         · have hb':bt=true:=by simpa using hb
           obtain⟨c2,hc2⟩:∃c2,cls[t2]? =some c2:=⟨_,List.getElem?_eq_getElem (by omega)⟩
           have hgd2:cls.getD t2 0=c2:=by rw[List.getD_eq_getElem?_getD,hc2];rfl
           have hneg:¬(((t2:Nat):Int)<0∨live.getD ((t2:Nat):Int).toNat false=false):=by
            rintro(e|e)
            · exact hg' e
            · rw[Int.toNat_natCast,hlt2,hb'] at e;cases e
           have hstep:minStep live cls of ((t2:Nat):Int)=match findC cls 0 of c2 with|some i=>(of,(i:Int))|none=>(of++[t2],(of.length:Int)):=by
            rw[minStep,if_neg hneg,Int.toNat_natCast,hgd2]<;>rfl
           obtain⟨oa',n',c',hv',_,_,_,hgetc⟩:=id (hsC.mv (Mv.ext0 mk.ext));cases hv';obtain⟨b4,o4,cs4,ha4,_,hrow4,rfl⟩:=hgetc t2 c2 hc2;refine G.skip rfl ?_;refine xra Tryz.func24 3 rfl ?_;refine xp rfl (OpP.indexSlice Tryz.underlying76 H.sz3 rfl rfl t2 rfl ha4 (by omega)) ?_;refine xp rfl (OpP.load H.ag3 rfl (hrow4 0 _ rfl)) ?_;refine xp rfl (OpP.lookupOk (z:=.int .i64 0) (KeyE.int .i64) Tryz.underlying109 Tryz.underlying3 (by kernel_rfl) rfl rfl rfl mk.mp) ?_;rw[asc_seenC]
           rcases hfind:findC cls 0 of c2 with _|i0
           · rw[hfind] at hstep;simp only at hstep;have hnone:asc c2 (seenC cls 0 of)=none:=by rw[asc_seenC,hfind];rfl
             refine xqd 5 [0,3,4,5,6,7,8,9,10,11,12,13,44,45,46,57] rfl ?_;refine G.seq rfl ?_;refine xrd Tryz.func24 2 [0,3,4,5,6,7,8,9,10,11,12,13,44,45,46,57,70] rfl ?_;refine G.cond rfl rfl (fun _=>?_) (fun hc=>absurd hc (by simp));refine xra Tryz.func24 1 rfl ?_;refine xp rfl (OpP.lenSlice Tryz.underlying76 rfl) ?_;refine xqd 1 [0,3,4,5,6,7,8,9,10,11,12,13,44,45,46,57,70] rfl ?_;refine xra Tryz.func24 3 rfl ?_;refine xp rfl (OpP.indexSlice Tryz.underlying76 H.sz3 rfl rfl t2 rfl ha4 (by omega)) ?_;refine xp rfl (OpP.load H.ag3 rfl (hrow4 0 _ rfl)) ?_;refine xqm 1 rfl ?_;refine RW.op0 rfl rfl rfl (OpX.mapUpdate (v:=((of.length:Nat):Int)) (KeyE.int .i64) Tryz.underlying109 Tryz.underlying3 rfl rfl rfl rfl rfl mk.mp hnone) ?_;rintro _ g3 ⟨rfl,hm3,x3,z3'⟩;have hm3:MapH (Value.int .i64) (Value.int .i64) g3 h3.size (seenC cls 0 (of++[t2])):=by rw[seenC_snoc,Nat.zero_add,hgd2];exact hm3
             have mne:∀{b:Nat}{t:TypeId},TyAt g2 b t→¬b=h3.size:=fun kt e=>mk.mp.ne kt e.symm
             have ol3:OwnH g3 h2.size 3 1 (.slice oa of.length oc) of.length (of.map encN):=OwnH.ext x3 mk.ol (fun b hb=>mne (mk.oty b hb));have kz3:=kz.ext x3 (mne kz.ty);have hz2g:=mk.ext.size;refine xd [0,3,4,5,6,7,8,9,10,11,12,13,44,45,46,57,70] rfl ?_;refine G.reg Tryz.func24 rfl ?_;refine xqm 2 rfl ?_;refine xo rfl (OpX.buildOnes (us:=[_]) Tryz.underlying76 H.el3 rfl rfl (by decide) (by simp[Value.oneCell'])) ?_;rintro _ _ ⟨rfl,rfl⟩;refine xo rfl (OpX.appendNew Tryz.underlying76 H.el3 rfl rfl (ol3) rfl rfl (by first|decide|simp[Value.oneCell']) (by omega) (by decide) (by omega)) ?_;rintro v7 g4 ⟨ho4,hx4,hx4',hv4⟩;have mk4:=mk.more (t:=t2) x3 hm3 rfl ho4 hx4 hv4;have kz4:=kz3.ext hx4 (fun e=>(show TyAt g3 _ 3 from OwnH.ty ol3 e.symm).ne kz3.ty (by decide) rfl);obtain⟨v7a,v7c,rfl,_⟩:=ho4.open;refine xqd 1 [0,3,4,5,6,7,8,9,10,11,12,13,44,45,46,57,70] rfl ?_;refine G.reg Tryz.func24 rfl ?_;refine xqp 2 rfl rfl (OpP.indexArr Tryz.underlying102 H.sz3 rfl rfl b rfl (by omega)) ?_;refine RW.op0 rfl rfl rfl (OpX.store H.sz3 rfl rfl rfl (kz4.cell (List.getElem?_eq_getElem hblt)) kz4.nf) ?_;rintro _ g6 ⟨rfl,hg6⟩;have ff:=fin g4 g6 _ (of++[t2]) (of.length:Nat) mk4 kz4 hg6 hstep;refine xd [0,3,4,5,6,7,8,9,10,11,12,13,44,45,46,57,70] rfl ?_;refine G.blkEnd ?_;refine G.reg Tryz.func24 rfl ?_;refine xp rfl (OpP.add64 rfl rfl ⟨by omega,by omega⟩) ?_;refine xqd 1 [0,3,4,5,6,7,8,9,10,11,12,13,44,45,46,57,70] rfl ?_;exact ih2 (b+1,_) _ _ ⟨rfl,rfl,rfl,rfl,rfl,rfl,rfl,rfl,rfl,rfl,trivial⟩ ff (by show 256-(b+1)<256-b;omega)
           · rw[hfind] at hstep;simp only at hstep;refine xqd 5 [0,3,4,5,6,7,8,9,10,11,12,13,44,45,46,57] rfl ?_;refine G.seq rfl ?_;refine xrd Tryz.func24 2 [0,3,4,5,6,7,8,9,10,11,12,13,44,45,46,57,70] rfl ?_;refine G.cond rfl rfl (fun hc=>absurd hc (by simp)) (fun _=>?_);refine G.skip rfl ?_;refine G.reg Tryz.func24 rfl ?_;refine xqp 2 rfl rfl (OpP.indexArr Tryz.underlying102 H.sz3 rfl rfl b rfl (by omega)) ?_;refine RW.op0 rfl rfl rfl (OpX.store H.sz3 rfl rfl rfl (kz.cell (List.getElem?_eq_getElem hblt)) kz.nf) ?_;rintro _ g6 ⟨rfl,hg6⟩;have ff:=fin g2 g6 _ of (i0:Nat) mk kz hg6 hstep;refine xd [0,3,4,5,6,7,8,9,10,11,12,13,44,45,46,57,70] rfl ?_;refine G.blkEnd ?_;refine G.reg Tryz.func24 rfl ?_;refine xp rfl (OpP.add64 rfl rfl ⟨by omega,by omega⟩) ?_;refine xqd 1 [0,3,4,5,6,7,8,9,10,11,12,13,44,45,46,57,70] rfl ?_;exact ih2 (b+1,_) _ _ ⟨rfl,rfl,rfl,rfl,rfl,rfl,rfl,rfl,rfl,rfl,trivial⟩ ff (by show 256-(b+1)<256-b;omega)
     · obtain rfl:b=256:=by omega
       rw[List.drop_of_length_le (by rw[r.len];exact Nat.le_refl _),minRow] at hrow;subst hrow;simp only at hcon;have hencr:encRow (mkRow row)=row.map (Value.int .i64):=by rw[encRow,mkRow_v hrlen]
       rw[Nat.sub_self,List.replicate_zero,List.append_nil,←hencr] at kz;have hil2:i<of.length:=(List.getElem?_eq_some_iff.1 hcur).1
       have nne:∀{b:Nat}{t:TypeId},TyAt g2 b t→102≠t→¬(but vn.ownBlock b∨Array.size g2≤b):=fun kt ht e=>by
        rcases e with e|e
        · exact(mk.nty _ e.symm).ne kt ht rfl
        · have:=kt.lt;omega
       have hzM:¬(but vn.ownBlock g.size∨Array.size g2≤g.size):=by
        rintro(e|e)
        · exact hvz e.symm
        · have:=kz.lt;omega
       have hdM:=nne mk.dblk.ty (by decide);have hnx:OwnH g2 h2.size 102 256 vn next.length (next.flatMap encRow):=mk.nx
       have hone:∀u∈encRow (mkRow row),u.oneCell'=true:=fun u hu=>by simp[encRow] at hu;obtain⟨_,_,rfl⟩:=hu;rfl
       have hg2:=mk.ext.size;refine G.exit rfl rfl ?_;refine G.seq rfl ?_;refine G.draw (fun b=>but vn.ownBlock b∨Array.size g2≤b) (fun i=>Nat.blt i 10) (sz:=11) (listed:= #[false,false,false,false,false,false,false,false,false,false,false]) Tryz.func24 H.mixed rfl rfl rfl ?_;refine xtq 0 1 (by kernel_rfl) rfl ?_;refine xtq 1 3 (by kernel_rfl) rfl ?_;refine xtq 2 7 (by kernel_rfl) rfl ?_;refine xtp 3 15 (by kernel_rfl) rfl (fun h' e=>OpP.fieldAddr (off:=0) Tryz.underlying98 rfl rfl H.sz96 rfl) ?_;refine xtp 4 31 (by kernel_rfl) rfl (fun h' e=>OpP.load H.ag96 rfl (e.cell hdM (mk.dblk.cell (i:=0) rfl))) ?_;refine xtp 5 63 (by kernel_rfl) rfl (fun h' e=>OpP.loadRowN H.ag102 H.sz102 rfl (e.rowAt hzM kz.row) (by first|rfl|(simp;done)|(simp;omega))) ?_;refine xto 6 127 (by kernel_rfl) rfl (OpX.buildRec (cs:=encRow (mkRow row)) Tryz.underlying96 H.el102 rfl (encRow_len _) (by decide)) ?_;rintro _ _ ⟨rfl,rfl⟩;refine⟨fun _=>(Ext.push _ _ _),?_⟩;refine xto 7 255 (by kernel_rfl) rfl (OpX.appendBig Tryz.underlying96 H.el102 rfl rfl hnx rfl (by simp) hone (by simp only[maxLen];omega) (by omega) hg2) ?_;rintro v3 g3 ⟨ho3,hx3,hx3',hv3⟩;refine⟨fun _=>hx3'.mono (fun _ _ k=>.inl k),?_⟩;obtain⟨a3,c3,rfl,_⟩:=ho3.open;refine xto 8 511 (by kernel_rfl) rfl (OpP.toX (OpP.nilCheck rfl)) ?_;rintro _ hq_ ⟨rfl,hqe_⟩;replace hqe_:=hqe_.symm;subst hqe_;refine⟨fun _=>Ext.refl _ _,?_⟩;refine xtp 9 1023 (by kernel_rfl) rfl (fun h' e=>OpP.fieldAddr (off:=0) Tryz.underlying98 rfl rfl H.sz96 rfl) ?_;refine xt0 10 2047 (by kernel_rfl) rfl (OpX.storeOne H.sz96 rfl rfl (mk.dblk.ext hx3 (fun e=>hdM (.inl e))) (by first|decide|exact of_decide_eq_true rfl|(simp;done)|(simp;omega)) rfl) ?_;rintro _ g4 ⟨rfl,k4,x4,z4⟩;refine⟨fun hk=>(nomatch hk),?_⟩;have mk4:=mk.setN (r:=mkRow row) rfl ho3 hx3 k4 x4;obtain⟨vn0,vr0,kd4,_,⟨ra,rn,rc,rfl,hrl0,hrc,hrm,hgetr⟩⟩:=id k2;obtain⟨x,hx⟩:∃x,d.rule[kk]? =some x:=⟨_,List.getElem?_eq_getElem (by omega)⟩
       have hru0:d.ru kk=x:=by unfold Tab.ru;rw[List.getD_eq_getElem?_getD,hx];rfl
       obtain⟨b5,o5,cs5,ha5,hO5,hrow5,rfl⟩:=hgetr kk x hx;obtain⟨gg5,c5,hv5,_,_,hcell5,_,_⟩:=mk4.ol.at hcur;have hoa5:oa=some ⟨gg5,0,none⟩:=by cases hv5;rfl
       have rne:∀{b:Nat}{t:TypeId},TyAt g4 b t→3≠t→¬(but vr.ownBlock b∨Array.size g4≤b):=fun kt ht e=>by
        rcases e with e|e
        · exact(mk4.rty _ e.symm).ne kt ht rfl
        · have:=kt.lt;omega
       have hdM4:=rne mk4.dblk.ty (by decide);have hru:OwnH g4 h2.size 3 1 vr rule.length (rule.map (Value.int .i64)):=mk4.ru;have hg4s:=mk4.ext.size
       have olb:∀{b:Nat},b<h2.size→¬(but vr.ownBlock b∨Array.size g4≤b):=fun kb e=>by
        rcases e with e|e
        · have:=(OwnH.lt mk4.ru e.symm).1;omega
        · omega
       have hc4:=kd4.cell (i:=1) rfl;have hd4:=olb (lt_of_cellAt hc4);have hc5:cellAt h2 _=some (Value.int .i64 x):=hrow5 0 _ rfl;have hd5:=olb (lt_of_cellAt hc5)
       have hd6:¬(but vr.ownBlock gg5∨Array.size g4≤gg5):=fun e=>by
        rcases e with e|e
        · exact mk4.ne gg5 (by rw[hoa5];rfl) e.symm
        · have:=lt_of_cellAt hcell5;simp only at this;omega
       refine RD.done (by kernel_rfl) ?_;refine xu [0,3,4,5,6,7,8,9,44,45,46] rfl ?_;refine G.draw (fun b=>but vr.ownBlock b∨Array.size g4≤b) (fun i=>Nat.blt i 19) (sz:=20) (listed:= #[false,false,false,false,false,false,false,false,false,false,false,false,false,false,false,false,false,false,false,false]) Tryz.func24 H.mixed rfl rfl rfl ?_;refine xtq 0 1 (by kernel_rfl) rfl ?_;refine xtq 1 3 (by kernel_rfl) rfl ?_;refine xtq 2 7 (by kernel_rfl) rfl ?_;refine xtp 3 15 (by kernel_rfl) rfl (fun h' e=>OpP.fieldAddr (off:=1) Tryz.underlying98 rfl rfl H.sz76 rfl) ?_;refine xtp 4 31 (by kernel_rfl) rfl (fun h' e=>OpP.load H.ag76 rfl (e.cell hdM4 (mk4.dblk.cell (i:=1) rfl))) ?_;refine xtq 5 63 (by kernel_rfl) rfl ?_;refine xtq 6 127 (by kernel_rfl) rfl ?_;refine xtp 7 255 (by kernel_rfl) rfl (fun h' e=>OpP.fieldAddr (off:=1) Tryz.underlying98 rfl rfl H.sz76 rfl) ?_;refine xtp 8 511 (by kernel_rfl) rfl (fun h' e=>OpP.load H.ag76 rfl (e.cell hd4 (mk4.ext.cell (fun k=>k) hc4))) ?_;refine xtq 9 1023 (by kernel_rfl) rfl ?_;refine xtq 10 2047 (by kernel_rfl) rfl ?_;refine xtp 11 4095 (by kernel_rfl) rfl (fun h' e=>OpP.indexSlice Tryz.underlying76 H.sz3 rfl rfl i rfl hoa5 (by omega)) ?_;refine xtp 12 8191 (by kernel_rfl) rfl (fun h' e=>OpP.load H.ag3 rfl (e.cell hd6 hcell5)) ?_;refine xtp 13 16383 (by kernel_rfl) rfl (fun h' e=>OpP.indexSlice Tryz.underlying76 H.sz3 rfl rfl kk rfl ha5 (by omega)) ?_;refine xtp 14 32767 (by kernel_rfl) rfl (fun h' e=>OpP.load H.ag3 rfl (e.cell hd5 (mk4.ext.cell (fun k=>k) hc5))) ?_;refine xto 15 65535 (by kernel_rfl) rfl (OpX.buildOnes (us:=[_]) Tryz.underlying76 H.el3 rfl rfl (by decide) (by simp[Value.oneCell'])) ?_;rintro _ _ ⟨rfl,rfl⟩;refine⟨fun _=>by first|exact Ext.push _ _ _|assumption,?_⟩;refine xto 16 131071 (by kernel_rfl) rfl (OpX.appendNew Tryz.underlying76 H.el3 rfl rfl (hru) rfl rfl (by first|decide|simp[Value.oneCell']) (by omega) (by decide) (by omega)) ?_;rintro v6 g6 ⟨ho6,hx6,hx6',hv6⟩;refine⟨fun _=>hx6'.mono (fun _ _ k=>.inl k),?_⟩;obtain⟨a6,c6,rfl,_⟩:=ho6.open;refine xto 17 262143 (by kernel_rfl) rfl (OpP.toX (OpP.nilCheck rfl)) ?_;rintro _ hq_ ⟨rfl,hqe_⟩;replace hqe_:=hqe_.symm;subst hqe_;refine⟨fun _=>Ext.refl _ _,?_⟩;refine xtp 18 524287 (by kernel_rfl) rfl (fun h' e=>OpP.fieldAddr (off:=1) Tryz.underlying98 rfl rfl H.sz76 rfl) ?_;refine xt0 19 1048575 (by kernel_rfl) rfl (OpX.storeOne H.sz76 rfl rfl (mk4.dblk.ext hx6 (fun e=>hdM4 (.inl e))) (by first|decide|exact of_decide_eq_true rfl|(simp;done)|(simp;omega)) rfl) ?_;rintro _ g7 ⟨rfl,k7,x7,z7⟩;refine⟨fun hk=>(nomatch hk),?_⟩;have mk7:=mk4.setR (x:=x) rfl ho6 hx6 hv6 k7 x7;refine RD.done (by kernel_rfl) ?_;refine xu [0,3,4,5,6,7,8,9,44,45,46] rfl ?_;refine G.blkEnd ?_;refine G.reg Tryz.func24 rfl ?_;refine xqp 1 rfl rfl (OpP.add64 rfl rfl ⟨by omega,by omega⟩) ?_;refine xqd 1 [0,3,4,5,6,7,8,9,44,45,46] rfl ?_;exact ih (i+1,_) _ _ ⟨rfl,rfl,rfl,rfl,rfl,rfl,rfl,trivial⟩ ⟨_,_,of,next++[mkRow row],rule++[x],mk7,hil2,hok2,⟨by simp[hnl],by simp[hrl]⟩,by rw[←hru0,show d.next.length+1-(i+1)=n by omega];exact hcon⟩ (by show d.next.length+1-(i+1)<d.next.length+1-i;omega)
   · obtain rfl:i=of.length:=by omega
     obtain⟨n,hnn⟩:∃n,d.next.length+1-of.length=n+1:=⟨d.next.length-of.length,by omega⟩
     rw[hnn,minG,List.getElem?_eq_none (Nat.le_refl _)] at hcon;simp only at hcon;refine G.exit rfl rfl ?_;refine xrd Tryz.func24 2 [0,2,3,4,5,6,7,8,32] rfl ?_;refine G.ret Tryz.func24 rfl rfl ?_;have hz02:=(e1.trans e2).size;refine⟨_,rfl,⟨h2.size,rfl,?_⟩,(e1.trans e2).trans mk.ext⟩;rw[←hcon];exact⟨vn,vr,by omega,mk.dblk,OwR.read mk.nx (fun b hb k=>by omega),OwE.read (h1:=fun _=>rfl) mk.ru (fun b hb k=>by omega)⟩
end
end Go.Proofs.YtfegacfjgjaghaaGreatDoor
namespace Go.Proofs.YtfegacfjgjaghaaGreatDoor
open Go
section
variable {ss:List Ste}{st s k t:Nat}{cls:List Int}
def Leads (L:List (List Nat)) (l:List Nat) (to:Int):Prop:=(l.length=0∧to= -1)∨(l.length≠0∧∃i:Nat,to=(i:Int)∧L[i]? =some l)
theorem Leads.mono {L L':List (List Nat)}{l:List Nat}{to:Int}(k:Leads L l to) (h:L <+: L'):Leads L' l to:=by
 rcases k with k|⟨k,i,e,hi⟩
 · exact .inl k
 · obtain⟨t,rfl⟩:=h;exact .inr ⟨k,i,e,by rw[List.getElem?_append_left (List.getElem?_eq_some_iff.1 hi).1];exact hi⟩
theorem rowStep_spec (ss:List Ste) (cur:List Nat) (lists:List (List Nat)) (b:Nat) (hn:lists.Nodup) :
 lists <+: (rowStep ss cur lists b).1∧(rowStep ss cur lists b).1.Nodup∧Leads (rowStep ss cur lists b).1 (stepP ss (UInt8.ofNat b) cur) (rowStep ss cur lists b).2:=by
 unfold rowStep;split
 · rename_i h;exact⟨List.prefix_refl _,hn,.inl ⟨h,rfl⟩⟩
 · rename_i h;split
   · rename_i i hi;exact⟨List.prefix_refl _,hn,.inr ⟨h,i,rfl,(findL_some lists 0 i _ hi).2⟩⟩
   · rename_i hi;refine⟨List.prefix_append _ _,List.nodup_append.2 ⟨hn,by simp,fun x hx y hy e=>?_⟩,.inr ⟨h,lists.length,rfl,by simp⟩⟩;have:y=stepP ss (UInt8.ofNat b) cur:=by simpa using hy
     exact findL_none lists 0 _ hi (by rw[←this,←e];exact hx)
theorem rowG_spec (ss:List Ste) (cur:List Nat):∀(n b:Nat) (lists:List (List Nat)) (row:List Int),lists.Nodup →
 lists <+: (rowG ss cur n b lists row).1∧(rowG ss cur n b lists row).1.Nodup∧∃ys,(rowG ss cur n b lists row).2=row++ys∧ys.length=n∧∀(j:Nat) (y:Int),ys[j]? =some y→Leads (rowG ss cur n b lists row).1 (stepP ss (UInt8.ofNat (b+j)) cur) y
 | 0,b,lists,row,hn=>⟨List.prefix_refl _,hn,[],by simp[rowG],rfl,fun j y h=>by simp at h⟩
 |n+1,b,lists,row,hn=>by
  obtain⟨h1,h2,h3⟩:=rowStep_spec ss cur lists b hn;obtain⟨k1,k2,ys,k3,k4,k5⟩:=rowG_spec ss cur n (b+1) (rowStep ss cur lists b).1 (row++[(rowStep ss cur lists b).2]) h2;rw[rowG];refine⟨h1.trans k1,k2,(rowStep ss cur lists b).2::ys,by rw[k3];simp,by simp[k4],fun j y hy=>?_⟩;cases j with
  |zero =>
   simp only[List.getElem?_cons_zero,Option.some.injEq] at hy;subst hy;exact h3.mono k1
  |succ j =>
   rw[List.getElem?_cons_succ] at hy;have:=k5 j y hy
   rwa [show b+(j+1)=b+1+j by omega]
structure Lists (ss:List Ste) (st:Nat) (lists:List (List Nat)) (d:Tab):Prop where
 first:lists[0]? =some (startP ss st)
 once:lists.Nodup
 size:lists.length≤2000
 rlen:d.rule.length=d.next.length
 row:∀(k:Nat) (r:Row) (l:List Nat),d.next[k]? =some r→lists[k]? =some l→∀(b:Nat) (y:Int),r.v[b]? =some y→Leads lists (stepP ss (UInt8.ofNat b) l) y
 rule:∀(k:Nat) (x:Int) (l:List Nat),d.rule[k]? =some x→lists[k]? =some l→x=acceptsP ss l
theorem dmakeG_spec {ss:List Ste}{st:Nat}:∀(n k:Nat) (lists:List (List Nat)) (next:List Row) (rule:List Int) (d:Tab),Lists ss st lists ⟨next,rule⟩→next.length=k→k≤lists.length→dmakeG ss n k lists next rule=some d→∃L,lists <+: L∧Lists ss st L d∧L.length=d.next.length
 | 0,k,lists,next,rule,d,h,hk,hkl,hd=>by cases hd
 |n+1,k,lists,next,rule,d,h,hk,hkl,hd=>by
  rw[dmakeG] at hd;split at hd
  · rename_i hn;cases hd;have:=List.getElem?_eq_none_iff.1 hn;exact⟨lists,List.prefix_refl _,h,by show lists.length=next.length;omega⟩
  · rename_i cur hcur;obtain⟨h1,h2,ys,h3,h4,h5⟩:=rowG_spec ss cur 256 0 lists [] h.once;split at hd
    · cases hd
    · rename_i hsz;have hkl2:=(List.getElem?_eq_some_iff.1 hcur).1
      have hpre:∀(i:Nat) (l:List Nat),i<lists.length→(rowG ss cur 256 0 lists []).1[i]? =some l→lists[i]? =some l:=fun i l hi hl=>by
       obtain⟨t,ht⟩:=h1;rw[←ht,List.getElem?_append_left hi] at hl;exact hl
      have hpre2:∀(i:Nat) (l:List Nat),lists[i]? =some l→(rowG ss cur 256 0 lists []).1[i]? =some l:=fun i l hl=>by
       obtain⟨t,ht⟩:=h1;rw[←ht,List.getElem?_append_left (List.getElem?_eq_some_iff.1 hl).1];exact hl
      have hlen:=h1.length_le;have hrl:rule.length=next.length:=h.rlen
      obtain⟨L,g1,g2,g3⟩:=dmakeG_spec (st:=st) n (k+1) _ _ _ d ⟨hpre2 _ _ h.first,h2,by omega,by simp[hrl],fun i r l hr hl b y hy=>by
       rcases Nat.lt_or_ge i next.length with hi|hi
       · rw[List.getElem?_append_left hi] at hr;exact(h.row i r l hr (hpre i l (by omega) hl) b y hy).mono h1
       · have hik:i=next.length:=by
          have:=(List.getElem?_eq_some_iff.1 hr).1;simp at this;omega
         subst hik;simp only[List.getElem?_concat_length,Option.some.injEq] at hr;subst hr;have hlc:=hpre _ l (by omega) hl;rw[hk] at hlc;rw[hcur] at hlc;cases hlc;rw[h3,List.nil_append,mkRow_v h4] at hy;have:=h5 b y hy
         rwa [Nat.zero_add] at this,fun i x l hx hl=>by
       rcases Nat.lt_or_ge i rule.length with hi|hi
       · rw[List.getElem?_append_left hi] at hx;exact h.rule i x l hx (hpre i l (by omega) hl)
       · have hik:i=rule.length:=by
          have:=(List.getElem?_eq_some_iff.1 hx).1;simp at this;omega
         subst hik;simp only[List.getElem?_concat_length,Option.some.injEq] at hx;subst hx;have hlc:=hpre _ l (by omega) hl;rw[hrl,hk,hcur] at hlc;cases hlc;rfl⟩ (by simp[hk]) (by omega) hd
      exact⟨L,h1.trans g1,g2,g3⟩
theorem accG_bound {ss:List Ste}(hr:∀x∈ss,x.rule≤1000000):∀(l:List Nat) (b:Int),-1≤b∧b≤1000000→ -1≤accG ss l b∧accG ss l b≤1000000
 | [],b,h=>h
 |j::r,b,h=>by
  rw[accG];refine accG_bound hr r _ ?_;split
  · rename_i x hx;split
    · have:=hr x (List.mem_of_getElem? hx);omega
    · exact h
  · exact h
theorem acceptsP_bound (hr:∀x∈ss,x.rule≤1000000) (l:List Nat) : -1≤acceptsP ss l∧acceptsP ss l≤1000000:=by
 unfold acceptsP;split
 · omega
 · exact accG_bound hr l (-1) (by omega)
theorem Lists.ok {L:List (List Nat)}{d:Tab}(k:Lists ss st L d) (hL:L.length=d.next.length) (hr:∀x∈ss,x.rule≤1000000):d.Ok:=by
 refine⟨k.rlen,by rw[←hL];exact k.size,fun r hrm x hx=>?_,fun x hx=>?_⟩
 · obtain⟨i,hi⟩:=List.getElem?_of_mem hrm;obtain⟨j,hj⟩:=List.getElem?_of_mem hx;have hil:=(List.getElem?_eq_some_iff.1 hi).1;have hl:L[i]? =some (L[i]'(by omega)):=List.getElem?_eq_getElem _
   rcases k.row i r _ hi hl j x hj with ⟨_,rfl⟩|⟨_,i2,rfl,h2⟩
   · omega
   · have:=(List.getElem?_eq_some_iff.1 h2).1;omega
 · obtain⟨i,hi⟩:=List.getElem?_of_mem hx;have hil:=(List.getElem?_eq_some_iff.1 hi).1;have hl:L[i]? =some (L[i]'(by rw[hL,←k.rlen];exact hil)):=List.getElem?_eq_getElem _;rw[k.rule i x _ hi hl];exact acceptsP_bound hr _
theorem dmakeP_lists {d:Tab}(h:dmakeP ss st= .inr d):(startP ss st).length≠0∧∃L,Lists ss st L d∧L.length=d.next.length∧0<L.length:=by
 unfold dmakeP at h;split at h
 · cases h
 · rename_i hs;refine⟨hs,?_⟩;split at h
   · cases h
   · rename_i d' hd;cases h;obtain⟨L,h1,h2,h3⟩:=dmakeG_spec (st:=st) 2002 0 [startP ss st] [] [] d ⟨rfl,by simp,by simp,rfl,fun k r l hr=>by simp at hr,fun k x l hx=>by simp at hx⟩ rfl (by simp) hd;exact⟨L,h2,h3,by have:=(List.getElem?_eq_some_iff.1 h2.first).1;omega⟩
theorem dmakeP_ok {d:Tab}(h:dmakeP ss st= .inr d) (hr:∀x∈ss,x.rule≤1000000):d.Ok:=by
 obtain⟨_,L,h1,h2,_⟩:=dmakeP_lists h;exact h1.ok h2 hr
theorem Lists.to {ss:List Ste}{st0:Nat}{L:List (List Nat)}{d:Tab}(k:Lists ss st0 L d) (hL:L.length=d.next.length){st:Nat}{now:List Nat}(hn:L[st]? =some now) (c:UInt8):Leads L (stepP ss c now) (d.to st c):=by
 have hl:=(List.getElem?_eq_some_iff.1 hn).1;have hr:d.next[st]? =some (d.next[st]'(by omega)):=List.getElem?_eq_getElem _
 obtain⟨x,hx,he,hm⟩:=(d.next[st]'(by omega)).at c;unfold Tab.to;rw[hr];simp only;rw[he];have:=k.row st _ now hr hn c.toNat x hx
 rwa [UInt8.ofNat_toNat] at this
theorem Lists.ru {ss:List Ste}{st0:Nat}{L:List (List Nat)}{d:Tab}(k:Lists ss st0 L d) (hL:L.length=d.next.length){st:Nat}{now:List Nat}(hn:L[st]? =some now):d.ru st=acceptsP ss now:=by
 have hl:=(List.getElem?_eq_some_iff.1 hn).1;have hlt:st<d.rule.length:=by rw[k.rlen];omega
 have hr:d.rule[st]? =some (d.rule[st]'hlt):=List.getElem?_eq_getElem _;have:=k.rule st _ now hr hn;unfold Tab.ru;rw[List.getD_eq_getElem?_getD,hr];exact this
theorem dmatchG_sim {ss:List Ste}{st0:Nat}{L:List (List Nat)}{d:Tab}(k:Lists ss st0 L d) (hL:L.length=d.next.length):∀(l:By) (st j:Nat) (now:List Nat) (b:Int×Int),L[st]? =some now→now.length≠0 →
 ((dmatchG d l st j b).1,(dmatchG d l st j b).2.1)=matchG ss l now j b
 | [],st,j,now,b,hn,h0=>by
  rw[dmatchG,matchG,if_neg h0,k.ru hL hn];split<;>rfl
 |c::l,st,j,now,b,hn,h0=>by
  rw[dmatchG,matchG,if_neg h0,k.ru hL hn]
  rcases k.to hL hn c with ⟨e,h⟩|⟨e,i,h,hi⟩
  · rw[h,if_neg (by decide),matchG_nil e];split<;>rfl
  · rw[h,if_pos (by omega),Int.toNat_natCast];exact dmatchG_sim k hL l i (j+1) _ _ hi e
theorem dmakeP_match {d:Tab}(h:dmakeP ss st= .inr d) (hs:ss.length≠0) (l:By):((dmatchG d l 0 0 (0,-1)).1,(dmatchG d l 0 0 (0,-1)).2.1)=matchP ss st l:=by
 obtain⟨h0,L,h1,h2,_⟩:=dmakeP_lists h;rw[matchP,if_neg hs];exact dmatchG_sim h1 h2 l 0 0 _ _ h1.first h0
def Tab.go (d:Tab):By→Int→Int
 | [],s=>s
 |c::l,s=>Tab.go d l (if s<0 then -1 else d.to s.toNat c)
def Tab.says (d:Tab) (s:Int) (w:By):Int:=if d.go w s<0 then -1 else d.ru (d.go w s).toNat
theorem go_neg (d:Tab):∀(w:By) (s:Int),s<0→d.go w s<0
 | [],s,h=>h
 |c::l,s,h=>by
  rw[Tab.go,if_pos h];exact go_neg d l (-1) (by decide)
theorem says_neg (d:Tab) (w:By){s:Int}(h:s<0):d.says s w= -1:=by rw[Tab.says,if_pos (go_neg d w s h)]
theorem says_nil (d:Tab) (k:Nat):d.says (k:Int) []=d.ru k:=by
 rw[Tab.says,Tab.go,if_neg (by omega),Int.toNat_natCast]
theorem says_cons (d:Tab) (k:Nat) (c:UInt8) (w:By):d.says (k:Int) (c::w)=d.says (d.to k c) w:=by
 have h:¬((k:Int)<0):=by omega
 rw[Tab.says,Tab.says,Tab.go,if_neg h,Int.toNat_natCast]
def Alive (d:Tab) (k:Nat):Prop:=∃w,0≤d.says (k:Int) w
def LiveSound (d:Tab) (out:List Bool):Prop:=∀k:Nat,out.getD k false=true→Alive d k
theorem row_to {d:Tab}{t:Int}(h:t∈d.row k):∃c:UInt8,d.to k c=t:=by
 unfold Tab.row at h;split at h
 · rename_i r hr;obtain⟨i,hi⟩:=List.getElem?_of_mem h;have hl:=(List.getElem?_eq_some_iff.1 hi).1;rw[r.len] at hl;refine⟨UInt8.ofNat i,?_⟩;have hc:(UInt8.ofNat i).toNat=i:=by simp;omega
   unfold Tab.to;rw[hr];simp only;rw[hc,List.getD_eq_getElem?_getD,hi];rfl
 · cases h
theorem to_row {d:Tab}(c:UInt8) (h:k<d.next.length):d.to k c∈d.row k:=by
 have hr:d.next[k]? =some (d.next[k]'h):=List.getElem?_eq_getElem _
 obtain⟨x,hx,he,hm⟩:=(d.next[k]'h).at c;unfold Tab.to Tab.row;rw[hr];simp only;rw[he];exact hm
theorem liveAt_sound {d:Tab}{out:List Bool}(h:LiveSound d out) (k:Nat) (ha:liveAt d out k=true):Alive d k:=by
 unfold liveAt at ha
 rcases Bool.or_eq_true _ _▸ha with e|e
 · exact⟨[],by rw[says_nil];exact of_decide_eq_true e⟩
 · obtain⟨t,ht,hl⟩:=List.any_eq_true.1 e;unfold liveTo at hl;rw[Bool.and_eq_true] at hl;have h0:=of_decide_eq_true hl.1;obtain⟨c,hc⟩:=row_to ht;obtain⟨w,hw⟩:=h t.toNat hl.2;refine⟨c::w,?_⟩;rw[says_cons,hc]
   rwa [Int.toNat_of_nonneg h0] at hw
theorem set_sound {d:Tab}{out:List Bool}(h:LiveSound d out) (k:Nat):LiveSound d (out.set k (liveAt d out k)):=by
 intro j hj
 by_cases e:k=j
 · subst e;rw[List.getD_eq_getElem?_getD] at hj
   by_cases hk:k<out.length
   · rw[List.getElem?_set_self hk] at hj;exact liveAt_sound h k hj
   · rw[List.getElem?_eq_none (by simp;omega)] at hj;cases hj
 · rw[List.getD_eq_getElem?_getD,List.getElem?_set_ne e,←List.getD_eq_getElem?_getD] at hj;exact h j hj
theorem livePass_sound {d:Tab}:∀(n k:Nat) (out:List Bool) (ag:Bool),LiveSound d out→LiveSound d (livePass d n k out ag).1
 | 0,_,_,_,h=>h
 |n+1,k,out,ag,h=>by
  rw[livePass];split
  · exact livePass_sound n (k+1) out ag h
  · exact livePass_sound n (k+1) _ _ (set_sound h k)
theorem livePass_still {d:Tab}:∀(n k:Nat) (out:List Bool) (ag:Bool),k+n≤out.length→(livePass d n k out ag).2=false→(livePass d n k out ag).1=out∧∀j,k≤j→j<k+n→out.getD j false=false→liveAt d out j=false
 | 0,_,_,_,_,_=>⟨rfl,fun j h1 h2=>by omega⟩
 |n+1,k,out,ag,hk,h=>by
  rw[livePass] at h ⊢;split at h
  · rename_i hg;rw[if_pos hg];obtain⟨h1,h2⟩:=livePass_still n (k+1) out ag (by omega) h
    exact⟨h1,fun j hj1 hj2 hj3=>by
     by_cases e:j=k
     · subst e;rw[hg] at hj3;cases hj3
     · exact h2 j (by omega) (by omega) hj3⟩
  · rename_i hg;rw[if_neg hg]
    have hf:out[k]? =some false:=by
     rw[List.getD_eq_getElem?_getD,List.getElem?_eq_getElem (by omega)] at hg;rw[List.getElem?_eq_getElem (by omega)];simpa using hg
    obtain⟨h1,h2⟩:=livePass_still n (k+1) _ _ (by simp;omega) h
    have hb:liveAt d out k=false:=by
     cases hb:liveAt d out k with
     |false=>rfl
     |true =>
      exfalso;rw[hb,Bool.or_true] at h
      have hmono:∀(n k:Nat) (out:List Bool),(livePass d n k out true).2=true:=fun n=>by
       induction n with
       |zero=>intro k out;rfl
       |succ n ih=>intro k out;rw[livePass];split<;>simp[ih]
      rw[hmono] at h;cases h
    have hset:out.set k (liveAt d out k)=out:=by
     rw[hb]
     apply List.ext_getElem?
     intro j
     by_cases e:k=j
     · subst e;rw[List.getElem?_set_self (by omega),hf]
     · rw[List.getElem?_set_ne e]
    rw[hset] at h1 h2;rw[hset]
    exact⟨h1,fun j hj1 hj2 hj3=>by
     by_cases e:j=k
     · subst e;exact hb
     · exact h2 j (by omega) (by omega) hj3⟩
def LiveClosed (d:Tab) (out:List Bool):Prop:=∀k,k<d.next.length→out.getD k false=false→liveAt d out k=false
theorem liveG_spec {d:Tab}:∀(n:Nat) (out:List Bool),out.length=d.next.length→falses out<n→LiveSound d out→LiveSound d (liveG d n out)∧LiveClosed d (liveG d n out)
 | 0,_,_,h,_=>absurd h (Nat.not_lt_zero _)
 |n+1,out,hl,hf,hs=>by
  have hless:=livePass_less d d.next.length 0 out false (by omega)
  have hsp:=livePass_sound d.next.length 0 out false hs
  rw[liveG];split
  · rename_i ht
    rcases hless.2 ht with e|e
    · cases e
    · exact liveG_spec n _ (by rw[livePass_len];exact hl) (by omega) hsp
  · rename_i ht;have hst:=livePass_still d.next.length 0 out false (by omega) (by simpa using ht)
    rw[hst.1];exact⟨hs,fun k hk hko=>hst.2 k (Nat.zero_le _) (by omega) hko⟩
theorem closed_alive {d:Tab}{out:List Bool}(hok:d.Ok) (h:LiveClosed d out):∀(w:By) (k:Nat),k<d.next.length→0≤d.says (k:Int) w→out.getD k false=true
 | [],k,hk,hw=>by
  rw[says_nil] at hw;cases ho:out.getD k false with
  |true=>rfl
  |false =>
   have:=h k hk ho;unfold liveAt at this;rw[decide_eq_true hw] at this;cases this
 |c::w,k,hk,hw=>by
  rw[says_cons] at hw;have ht:=Tab.to_lt hok (s:=k) c
  have h0:0≤d.to k c:=by
   by_cases e:d.to k c<0
   · rw[says_neg d w e] at hw;omega
   · omega
  obtain⟨t,htt⟩:=Int.eq_ofNat_of_zero_le h0;rw[htt] at hw;have ih:=closed_alive hok h w t (by omega) hw;cases ho:out.getD k false with
  |true=>rfl
  |false =>
   have:=h k hk ho;unfold liveAt at this;rw[Bool.or_eq_false_iff] at this;have h2:=List.any_eq_false.1 this.2 _ (to_row c hk);unfold liveTo at h2;rw[htt,Int.toNat_natCast,ih] at h2;simp at h2
theorem liveP_spec {d:Tab}(hok:d.Ok) (hk:k<d.next.length):(liveP d).getD k false=true↔Alive d k:=by
 have h:=liveG_spec (d:=d) (d.next.length+1) (List.replicate d.next.length false) (by simp) (by
  have:falses (List.replicate d.next.length false)≤d.next.length:=by unfold falses;exact Nat.le_trans (List.length_filter_le _ _) (by simp)
  omega) (fun k hk=>by
   rw[List.getD_eq_getElem?_getD,List.getElem?_replicate] at hk;split at hk<;>cases hk)
 exact⟨h.1 k,fun⟨w,hw⟩=>closed_alive hok h.2 w k hk hw⟩
structure PassKey (d:Tab) (live:List Bool) (cls:List Int) (k:Nat) (seen:List (List Int)) (after:List Int):Prop where
 len:after.length=k
 once:seen.Nodup
 at_:∀j,j<k→∃i:Nat,after[j]? =some (i:Int)∧seen[i]? =some (stKey d live cls j)
theorem findK_none:∀(ls:List (List Int)) (i:Nat) (l:List Int),findK i ls l=none→l∉ls
 | [],i,l,_=>List.not_mem_nil
 |x::r,i,l,h=>by
  rw[findK] at h;split at h
  · cases h
  · rename_i e;have:=findK_none r (i+1) l h;simp only[List.mem_cons,not_or];exact⟨e,this⟩
theorem classPass_key {d:Tab}{live:List Bool}{cls:List Int}:∀(n k:Nat) (seen:List (List Int)) (after:List Int),PassKey d live cls k seen after→PassKey d live cls (k+n) (classPass d live cls n k seen after).1 (classPass d live cls n k seen after).2
 | 0,k,seen,after,h=>h
 |n+1,k,seen,after,h=>by
  rw[classPass,show k+(n+1)=(k+1)+n by omega];split
  · rename_i i hi;have hi':=findK_some seen 0 i _ hi;refine classPass_key n (k+1) _ _ ⟨by simp[h.len],h.once,fun j hj=>?_⟩
    by_cases e:j=k
    · subst e;refine⟨i,?_,hi'.2⟩;rw[←h.len,List.getElem?_concat_length]
    · obtain⟨i',h1,h2⟩:=h.at_ j (by omega);exact⟨i',by rw[List.getElem?_append_left (by rw[h.len];omega)];exact h1,h2⟩
  · rename_i hi;have hno:=findK_none seen 0 _ hi;refine classPass_key n (k+1) _ _ ⟨by simp[h.len],List.nodup_append.2 ⟨h.once,by simp,fun a ha b hb e=>?_⟩,fun j hj=>?_⟩
    · have:b=stKey d live cls k:=by simpa using hb
      rw[e,this] at ha;exact hno ha
    · by_cases e:j=k
      · subst e;refine⟨seen.length,?_,by rw[List.getElem?_concat_length]⟩;rw[←h.len,List.getElem?_concat_length]
      · obtain⟨i',h1,h2⟩:=h.at_ j (by omega);exact⟨i',by rw[List.getElem?_append_left (by rw[h.len];omega)];exact h1,by rw[List.getElem?_append_left (List.getElem?_eq_some_iff.1 h2).1];exact h2⟩
theorem classPass_iff {d:Tab}{live:List Bool}(hs:s<d.next.length) (ht:t<d.next.length) :
 (classPass d live cls d.next.length 0 [] []).2.getD s 0=(classPass d live cls d.next.length 0 [] []).2.getD t 0↔stKey d live cls s=stKey d live cls t:=by
 have h:=classPass_key (d:=d) (live:=live) (cls:=cls) d.next.length 0 [] [] ⟨rfl,by simp,fun j hj=>absurd hj (Nat.not_lt_zero _)⟩
 rw[Nat.zero_add] at h;obtain⟨i,h1,h2⟩:=h.at_ s hs;obtain⟨j,h3,h4⟩:=h.at_ t ht;rw[List.getD_eq_getElem?_getD,List.getD_eq_getElem?_getD,h1,h3];constructor
 · intro e
   have:i=j:=by
    have e':(i:Int)=(j:Int):=e;omega
   subst this;rw[h2] at h4;exact Option.some.inj h4
 · intro e;rw[←e] at h4;have hi:=(List.getElem?_eq_some_iff.1 h2)
   have hj:=(List.getElem?_eq_some_iff.1 h4)
   obtain⟨hi1,hi2⟩:=hi;obtain⟨hj1,hj2⟩:=hj
   have:i=j:=by
    rcases Nat.lt_trichotomy i j with e|e|e
    · exact absurd (hi2.trans hj2.symm) (List.pairwise_iff_getElem.1 h.once i j hi1 hj1 e)
    · exact e
    · exact absurd (hj2.trans hi2.symm) (List.pairwise_iff_getElem.1 h.once j i hj1 hi1 e)
   subst this;rfl
theorem covers_once:∀(m:Nat) (l:List Int),Covers m l→l.length=m→l.Nodup
 | 0,l,_,hl=>by rw[List.length_eq_zero_iff.1 hl];exact List.Pairwise.nil
 |m+1,l,h,hl=>by
  have hm:=h m (Nat.lt_succ_self m);have h1:Covers m (l.erase (m:Int)):=fun i hi=>(List.mem_erase_of_ne (by omega)).2 (h i (by omega))
  have h3:=List.length_erase_of_mem hm;have h2:=covers_once m _ h1 (by omega)
  have hno:(m:Int)∉l.erase (m:Int):=fun hin=>by
   have h4:Covers m ((l.erase (m:Int)).erase (m:Int)):=fun i hi=>(List.mem_erase_of_ne (by omega)).2 (h1 i hi)
   have h5:=covers_len _ _ h4;have h6:=List.length_erase_of_mem hin;have h7:=List.length_pos_of_mem hin;omega
  exact(List.perm_cons_erase hm).nodup_iff.2 (List.nodup_cons.2 ⟨hno,h2⟩)
theorem row_get {d:Tab}(hs:s<d.next.length) (c:UInt8):(d.row s)[c.toNat]? =some (d.to s c):=by
 have hr:d.next[s]? =some (d.next[s]'hs):=List.getElem?_eq_getElem _
 obtain⟨x,hx,he,_⟩:=(d.next[s]'hs).at c;unfold Tab.row Tab.to;rw[hr];simp only;rw[he];exact hx
theorem row_len {d:Tab}(hs:s<d.next.length):(d.row s).length=256:=by
 have hr:d.next[s]? =some (d.next[s]'hs):=List.getElem?_eq_getElem _
 unfold Tab.row;rw[hr];exact(d.next[s]'hs).len
theorem row_map {d:Tab}(hs:s<d.next.length) (ht:t<d.next.length) (f:Int→Int):(d.row s).map f=(d.row t).map f↔∀c:UInt8,f (d.to s c)=f (d.to t c):=by
 constructor
 · intro e c;have:=congrArg (fun l=>l[c.toNat]?) e;simp only[List.getElem?_map,row_get hs c,row_get ht c,Option.map_some,Option.some.injEq] at this;exact this
 · intro h
   apply List.ext_getElem?
   intro i
   by_cases hi:i<256
   · have hc:(UInt8.ofNat i).toNat=i:=by simp;omega
     have h1:=row_get hs (UInt8.ofNat i);have h2:=row_get ht (UInt8.ofNat i);rw[hc] at h1 h2;rw[List.getElem?_map,List.getElem?_map,h1,h2,Option.map_some,Option.map_some,h]
   · rw[List.getElem?_eq_none (by rw[List.length_map,row_len hs];omega),List.getElem?_eq_none (by rw[List.length_map,row_len ht];omega)]
def Alike (d:Tab) (a b:Int):Prop:=∀w,d.says a w=d.says b w
theorem says_ge {d:Tab}(hok:d.Ok) (a:Int) (w:By) : -1≤d.says a w:=by
 unfold Tab.says;split
 · omega
 · unfold Tab.ru;rw[List.getD_eq_getElem?_getD];cases h:d.rule[(d.go w a).toNat]? with
   |none=>decide
   |some x=>exact(hok.ru x (List.mem_of_getElem? h)).1
theorem dead_iff {d:Tab}(hok:d.Ok){a:Int}(ha:a<d.next.length):(a<0∨(liveP d).getD a.toNat false=false)↔∀w,d.says a w= -1:=by
 constructor
 · intro h w
   rcases h with h|h
   · exact says_neg d w h
   · by_cases hn:a<0
     · exact says_neg d w hn
     · obtain⟨k,rfl⟩:=Int.eq_ofNat_of_zero_le (show 0≤a by omega);have hl:=liveP_spec hok (k:=k) (by omega);have hg:=says_ge hok (k:Int) w
       by_cases hw:0≤d.says (k:Int) w
       · rw[Int.toNat_natCast,hl.2 ⟨w,hw⟩] at h;cases h
       · omega
 · intro h
   by_cases hn:a<0
   · exact .inl hn
   · right
     obtain⟨k,rfl⟩:=Int.eq_ofNat_of_zero_le (show 0≤a by omega);have hl:=liveP_spec hok (k:=k) (by omega);rw[Int.toNat_natCast];cases hb:(liveP d).getD k false with
     |false=>rfl
     |true =>
      obtain⟨w,hw⟩:=hl.1 hb;have:=h w;omega
structure ClsOk (d:Tab) (cls:List Int):Prop where
 len:cls.length=d.next.length
 ge:∀k,-1≤cls.getD k 0
 alike:∀s t:Nat,s<d.next.length→t<d.next.length→Alike d s t→cls.getD s 0=cls.getD t 0
 rule:∀s t:Nat,s<d.next.length→t<d.next.length→cls.getD s 0=cls.getD t 0→d.ru s=d.ru t
theorem behind_alike {d:Tab}(hok:d.Ok) (k:ClsOk d cls){a b:Int}(ha:a<d.next.length) (hb:b<d.next.length) (h:Alike d a b):behindV (liveP d) cls a=behindV (liveP d) cls b:=by
 by_cases hd:a<0∨(liveP d).getD a.toNat false=false
 · have hd':b<0∨(liveP d).getD b.toNat false=false:=(dead_iff hok hb).2 fun w=>by rw[←h w];exact(dead_iff hok ha).1 hd w
   rw[behindV,if_pos hd,behindV,if_pos hd']
 · have hd':¬(b<0∨(liveP d).getD b.toNat false=false):=fun e=>hd ((dead_iff hok ha).2 fun w=>by rw[h w];exact(dead_iff hok hb).1 e w)
   rw[behindV,if_neg hd,behindV,if_neg hd']
   have ha0:0≤a:=by
    by_cases e:a<0
    · exact absurd (.inl e) hd
    · omega
   have hb0:0≤b:=by
    by_cases e:b<0
    · exact absurd (.inl e) hd'
    · omega
   exact k.alike a.toNat b.toNat (by omega) (by omega) (by rw[Int.toNat_of_nonneg ha0,Int.toNat_of_nonneg hb0];exact h)
theorem key_alike {d:Tab}(hok:d.Ok) (k:ClsOk d cls) (hs:s<d.next.length) (ht:t<d.next.length) (h:Alike d s t):stKey d (liveP d) cls s=stKey d (liveP d) cls t:=by
 unfold stKey;rw[k.alike s t hs ht h,(row_map hs ht _).2 fun c=>behind_alike hok k (Tab.to_lt hok c).2 (Tab.to_lt hok c).2 fun w=>by rw[←says_cons,←says_cons];exact h (c::w)]
theorem key_head {d:Tab}{live:List Bool}(h:stKey d live cls s=stKey d live cls t):cls.getD s 0=cls.getD t 0:=by
 unfold stKey at h;exact(List.cons.inj h).1
theorem pass_cls {d:Tab}(hok:d.Ok) (k:ClsOk d cls):ClsOk d (classPass d (liveP d) cls d.next.length 0 [] []).2:=by
 have hend:=classPass_end d (liveP d) cls;refine⟨hend.len,fun j=>?_,fun s t hs ht h=>(classPass_iff hs ht).2 (key_alike hok k hs ht h),fun s t hs ht h=>k.rule s t hs ht (key_head ((classPass_iff hs ht).1 h))⟩;rw[List.getD_eq_getElem?_getD];cases hx:(classPass d (liveP d) cls d.next.length 0 [] []).2[j]? with
 |none=>decide
 |some x=>have:=hend.bound x (List.mem_of_getElem? hx);show -1≤x;omega
theorem ru_getD {d:Tab}(hok:d.Ok) (hs:s<d.next.length):d.rule.getD s 0=d.ru s:=by
 have hl:=hok.len;unfold Tab.ru;rw[List.getD_eq_getElem?_getD,List.getD_eq_getElem?_getD,List.getElem?_eq_getElem (by omega)];rfl
theorem rule_cls {d:Tab}(hok:d.Ok):ClsOk d d.rule:=by
 refine⟨hok.len,fun k=>?_,fun s t hs ht h=>?_,fun s t hs ht h=>?_⟩
 · rw[List.getD_eq_getElem?_getD];cases hx:d.rule[k]? with
   |none=>decide
   |some x=>exact(hok.ru x (List.mem_of_getElem? hx)).1
 · rw[ru_getD hok hs,ru_getD hok ht];have:=h []
   rwa [says_nil,says_nil] at this
 · rwa [ru_getD hok hs,ru_getD hok ht] at h
theorem stable_alike {d:Tab}(hok:d.Ok){cls:List Int}(k:ClsOk d cls) (hst:∀s t,s<d.next.length→t<d.next.length→cls.getD s 0=cls.getD t 0→stKey d (liveP d) cls s=stKey d (liveP d) cls t):∀(w:By) (s t:Nat),s<d.next.length→t<d.next.length→cls.getD s 0=cls.getD t 0→d.says (s:Int) w=d.says (t:Int) w
 | [],s,t,hs,ht,h=>by rw[says_nil,says_nil];exact k.rule s t hs ht h
 |c::w,s,t,hs,ht,h=>by
  rw[says_cons,says_cons];have hk:=hst s t hs ht h;unfold stKey at hk;have hb:=(row_map hs ht _).1 (List.cons.inj hk).2 c;have ha:=(Tab.to_lt hok (s:=s) c).2;have hb2:=(Tab.to_lt hok (s:=t) c).2;generalize d.to s c=a at *;generalize d.to t c=b at *
  by_cases hd:a<0∨(liveP d).getD a.toNat false=false
  · have hd':b<0∨(liveP d).getD b.toNat false=false:=by
     by_cases e:b<0∨(liveP d).getD b.toNat false=false
     · exact e
     · rw[behindV,if_pos hd,behindV,if_neg e] at hb;have:=k.ge b.toNat;omega
    rw[(dead_iff hok ha).1 hd w,(dead_iff hok hb2).1 hd' w]
  · by_cases hd':b<0∨(liveP d).getD b.toNat false=false
    · rw[behindV,if_neg hd,behindV,if_pos hd'] at hb;have:=k.ge a.toNat;omega
    · rw[behindV,if_neg hd,behindV,if_neg hd'] at hb
      have ha0:0≤a:=by
       by_cases e:a<0
       · exact absurd (.inl e) hd
       · omega
      have hb0:0≤b:=by
       by_cases e:b<0
       · exact absurd (.inl e) hd'
       · omega
      have ih:=stable_alike hok k hst w a.toNat b.toNat (by omega) (by omega) hb
      rwa [Int.toNat_of_nonneg ha0,Int.toNat_of_nonneg hb0] at ih
theorem classG_spec {d:Tab}(hok:d.Ok):∀(n many:Nat) (cls:List Int),ClsOk d cls→Covers many cls→many≤d.next.length→d.next.length+1≤n+many→ClsOk d (classG d (liveP d) n many cls)∧∀s t:Nat,s<d.next.length→t<d.next.length→(classG d (liveP d) n many cls).getD s 0=(classG d (liveP d) n many cls).getD t 0→Alike d s t
 | 0,many,cls,k,hc,hm,hf=>by omega
 |n+1,many,cls,k,hc,hm,hf=>by
  have hend:=classPass_end d (liveP d) cls;have hmore:=classPass_more (live:=liveP d) hc k.len;have hp:=pass_cls hok k;rw[classG];split
  · rename_i he;refine⟨hp,fun s t hs ht h w=>?_⟩;have hkey:=(classPass_iff hs ht).1 h;refine stable_alike hok k (fun s t hs ht h=>?_) w s t hs ht (key_head hkey)
    have hcov:Covers many ((classPass d (liveP d) cls d.next.length 0 [] []).1.map fun s=>s.getD 0 0):=fun i hi=>by
     obtain⟨k',hk'⟩:=List.getElem?_of_mem (hc i hi);have hkl:=(List.getElem?_eq_some_iff.1 hk').1;have:=hend.all k' (by have:=k.len;omega);refine List.mem_map.2 ⟨_,this,?_⟩;simp[stKey,List.getD_eq_getElem?_getD,hk']
    have hon:=covers_once many _ hcov (by simpa using he);obtain⟨i,hi⟩:=List.getElem?_of_mem (hend.all s hs);obtain⟨j,hj⟩:=List.getElem?_of_mem (hend.all t ht);have h1:((classPass d (liveP d) cls d.next.length 0 [] []).1.map fun s=>s.getD 0 0)[i]? =some (cls.getD s 0):=by rw[List.getElem?_map,hi];rfl
    have h2:((classPass d (liveP d) cls d.next.length 0 [] []).1.map fun s=>s.getD 0 0)[j]? =some (cls.getD s 0):=by rw[List.getElem?_map,hj,h];rfl
    obtain⟨hi1,hi2⟩:=List.getElem?_eq_some_iff.1 h1;obtain⟨hj1,hj2⟩:=List.getElem?_eq_some_iff.1 h2
    have hij:i=j:=by
     rcases Nat.lt_trichotomy i j with e|e|e
     · exact absurd (hi2.trans hj2.symm) (List.pairwise_iff_getElem.1 hon i j hi1 hj1 e)
     · exact e
     · exact absurd (hj2.trans hi2.symm) (List.pairwise_iff_getElem.1 hon j i hj1 hi1 e)
    subst hij;rw[hi] at hj;exact Option.some.inj hj
  · rename_i hne;have hsz:=hend.size;exact classG_spec hok n _ _ hp hend.nums hsz (by omega)
theorem classP_spec {d:Tab}(hok:d.Ok) (hs:s<d.next.length) (ht:t<d.next.length):(classP d (liveP d)).getD s 0=(classP d (liveP d)).getD t 0↔Alike d s t:=by
 have h:=classG_spec hok (d.next.length+1) 0 d.rule (rule_cls hok) (fun i hi=>absurd hi (Nat.not_lt_zero _)) (Nat.zero_le _) (by omega);exact⟨h.2 s t hs ht,h.1.alike s t hs ht⟩
def RuleB (B:Nat) (ss:List Ste):Prop:=∀x∈ss,x.rule≤B
theorem RuleB.snoc {B:Nat}(k:RuleB B ss){x:Ste}(h:x.rule≤B):RuleB B (ss++[x]):=fun y hy=>by
 rcases List.mem_append.1 hy with e|e
 · exact k y e
 · have:y=x:=by simpa using e
   rw[this];exact h
theorem RuleB.set {B:Nat}{ss:List Ste}(k:RuleB B ss){x:Ste}(h:x.rule≤B) (i:Nat):RuleB B (ss.set i x):=fun y hy=>by
 rcases List.mem_or_eq_of_mem_set hy with e|e
 · exact k y e
 · rw[e];exact h
end
mutual
theorem lay_rb (B:Nat):∀(x:Nd) (ss:List Ste) (to:Nat),RuleB B ss→RuleB B (lay x ss to).1
 |.mk k s kids,ss,to,h=>by
  rw[lay];split
  · exact h.snoc (Nat.zero_le _)
  · split
    · exact layCat_rb B kids ss to h
    · split
      · exact(layAlt_rb B kids ss to h).snoc (Nat.zero_le _)
      · split
        · exact(layOne_rb B kids ss to h).snoc (Nat.zero_le _)
        · split
          · exact(layOne_rb B kids _ _ (h.snoc (Nat.zero_le _))).set (Nat.zero_le _) _
          · exact h
theorem layCat_rb (B:Nat):∀(l:List Nd) (ss:List Ste) (to:Nat),RuleB B ss→RuleB B (layCat l ss to).1
 | [],ss,to,h=>by rw[layCat];exact h
 |x::r,ss,to,h=>by rw[layCat];exact lay_rb B x _ _ (layCat_rb B r ss to h)
theorem layAlt_rb (B:Nat):∀(l:List Nd) (ss:List Ste) (to:Nat),RuleB B ss→RuleB B (layAlt l ss to).1
 | [],ss,to,h=>by rw[layAlt];exact h
 |x::r,ss,to,h=>by rw[layAlt];exact layAlt_rb B r _ to (lay_rb B x ss to h)
theorem layOne_rb (B:Nat):∀(l:List Nd) (ss:List Ste) (to:Nat),RuleB B ss→RuleB B (layOne l ss to).1
 | [],ss,to,h=>by rw[layOne];exact h
 |x::r,ss,to,h=>by rw[layOne];exact lay_rb B x ss to h
end
section
variable {ss:List Ste}{st s k t:Nat}{cls:List Int}
theorem makeG_rb (B:Nat):∀(i:Nat) (rules:List By) (ss:List Ste) (t:List Nat) (ss':List Ste) (t':List Nat),i+rules.length≤B→RuleB B ss→makeG i rules ss t= .inr (ss',t')→RuleB B ss'
 |i,[],ss,t,ss',t',_,h,hm=>by
  rw[makeG] at hm;cases hm;exact h
 |i,s::r,ss,t,ss',t',hB,h,hm=>by
  rw[List.length_cons] at hB;rw[makeG] at hm;split at hm
  · cases hm
  · exact makeG_rb B (i+1) r _ _ ss' t' (by omega) (lay_rb B _ _ _ (h.snoc (by show i≤B;omega))) hm
theorem makeP_rb {rules:List By}(h:makeP rules= .inr (ss,st)):∀x∈ss,x.rule≤1000000:=by
 unfold makeP at h;split at h
 · cases h
 · rename_i hn;split at h
   · cases h
   · rename_i ss1 t1 hg;split at h
     · cases h
     · cases h;have:=makeG_rb 64 0 rules [] [] ss1 t1 (by omega) (fun x hx=>(by cases hx)) hg;intro x hx;have:=(this.snoc (x:=⟨0,0,t1,0⟩) (Nat.zero_le _)) x hx;omega
end
end Go.Proofs.YtfegacfjgjaghaaGreatDoor
namespace Go.Proofs.YtfegacfjgjaghaaGreatDoor
open Go Go.Lw
set_option maxRecDepth 20000
def dmadeP (rules:List By):Int ⊕ Tab:=match makeP rules with
 |.inl e=>.inl e
 |.inr (ss,st)=>dmakeP ss st
theorem dmadeP_ok {rules:List By}{d:Tab}(h:dmadeP rules= .inr d):d.Ok∧0<d.next.length:=by
 unfold dmadeP at h;split at h
 · cases h
 · rename_i ss st hm;refine⟨dmakeP_ok h (makeP_rb hm),?_⟩;obtain⟨_,L,_,h2,h3⟩:=dmakeP_lists h;omega
theorem table_match {rules:List By}{d:Tab}(h:dmadeP rules= .inr d) (s:By) (a:Int):((dmatchA d s a).1,(dmatchA d s a).2.1)=matchM rules s a:=by
 have hd:=(dmadeP_ok h).2;unfold dmadeP at h;split at h
 · cases h
 · rename_i ss st hm;have hst:=(makeP_made hm).stl;unfold matchM matchA dmatchA;rw[hm];simp only
   by_cases ha:a<0∨(s.length:Int)<a
   · rw[if_pos (.inr ha),if_pos (.inr ha)]
   · rw[if_neg (by omega),if_neg (by omega)];exact dmakeP_match h (by omega) _
end Go.Proofs.YtfegacfjgjaghaaGreatDoor
