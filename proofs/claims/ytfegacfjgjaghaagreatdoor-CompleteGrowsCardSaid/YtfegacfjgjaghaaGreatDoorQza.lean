/- What the proof of the statement leans on (part 27). -/
import Derived.Sort.OwnSorted
import Derived.Test.YtfegacfjgjaghaaGreatDoorQz

namespace Go.Proofs.YtfegacfjgjaghaaGreatDoor
open Go Go.Lw
set_option maxRecDepth 20000
section
variable {h:Heap}{v:Value}{O:Nat→Prop}{xs:List By}
def nameV (s:By) (l:List Tk) (a:Int):Tk×Bool:=if a<0∨(s.length:Int)<a then ((0,0,0),false) else match l.find? (nameT a s.length) with|some t=>(t,true)|none=>((0,0,0),false)
theorem find_drop1 {p:Tk→Bool}{l:List Tk}{i:Nat}{x:Tk}(h:l[i]? =some x):(l.drop i).find? p=if p x=true then some x else (l.drop (i+1)).find? p:=by
 obtain⟨hi,he⟩:=List.getElem?_eq_some_iff.1 h;rw[List.drop_eq_getElem_cons hi,he,List.find?_cons];split<;>rename_i q<;>simp[q]
theorem name_calls (s:By){l:List Tk}(hv:SlR eTk h O v l) (a:Int) :
 CallsH Tryz.prog 26 #[.string (bs s),v,.int .i64 a] h (Ret fun r h'=>r= .tuple #[.agg (encTk (nameV s l a).1).toArray,.bool (nameV s l a).2]∧Ext0 h h'):=by
 have hz:=bs_size s;obtain⟨va,vn,vc,rfl,hvs⟩:=hv.open;have hxl:l.length=vn:=hvs.len;subst hxl;have hvm:=hvs.cap;have hvc:=hvs.le;simp only[maxLen] at hvm;refine CallsH.of Tryz.func26 rfl rfl ?_;refine xr Tryz.func26 rfl ?_;refine xo rfl (OpX.allocN H.zr35) ?_;rintro _ h1 ⟨rfl,k1,e1,z1⟩;have k1:Blk h1 h.size 35 (encTk (0,0,0)):=k1;refine xqd 1 [0,1,2,6,7] rfl ?_;refine G.seq rfl ?_;refine G.seq rfl ?_;refine G.regTo1 [(17,.bool (decide (a<0∨(s.length:Int)<a)))] [(0,_),(1,_),(2,_),(6,_),(7,_)] ⟨rfl,rfl,rfl,rfl,rfl,trivial⟩ Tryz.func26 rfl ?_ ?_
 · refine xqm 3 rfl ?_;refine RW.split (d:=12) rfl (fun c=>?_) (fun c=>?_)
   · have c:=of_decide_eq_true c;refine xqm 5 rfl ?_;refine RW.done rfl ?_;exact⟨rfl,at_bool rfl (by rw[eq_comm,decide_eq_true];exact .inl c),rfl,rfl,rfl,rfl,rfl,trivial⟩
   · have c:=of_decide_eq_false c;refine xqp 2 rfl rfl (OpP.lenString Tryz.underlying9 rfl) ?_;refine xqm 2 rfl ?_;refine RW.done rfl ?_;exact⟨rfl,at_bool rfl (by rw[decide_eq_decide];omega),rfl,rfl,rfl,rfl,rfl,trivial⟩
 · refine G.ite rfl rfl (fun hb=>?_) (fun hb=>?_)
   · have hN:nameV s l a=((0,0,0),false):=if_pos hb;rw[hN];refine xr Tryz.func26 rfl ?_;refine xp rfl (OpP.build (H.bd35_ ) rfl) ?_;refine RW.op0 rfl rfl rfl (OpX.storeBlk H.sz35 rfl rfl k1 (by first|rfl|(simp;done)|(simp;omega)) (by first|decide|exact of_decide_eq_true rfl|(simp;done)|(simp;omega)) (by first|decide|simp[Value.oneCell'])) ?_;rintro _ h2 ⟨rfl,k2,x2,z2⟩;refine xqd 1 [0,1,2,6,7,17] rfl ?_;have k2:Blk h2 h.size 35 (encTk (0,0,0)):=k2;refine G.retC Tryz.func26 rfl (.cons (ResOk.rowN H.ag35 H.sz35 rfl (k2.row) (by first|rfl|(simp;done)|(simp;omega))) (.cons (ResOk.tmp rfl) (.nil))) ?_;exact⟨_,rfl,rfl,Ext0.only e1 x2 (Nat.le_refl _)⟩
   · have hN:nameV s l a=match l.find? (nameT a s.length) with|some t=>(t,true)|none=>((0,0,0),false):=if_neg hb
     rw[hN];refine G.skip rfl ?_;refine G.seq rfl ?_;refine xra Tryz.func26 1 rfl ?_;refine xp rfl (OpP.lenSlice Tryz.underlying25 rfl) ?_;refine xqd 1 [0,1,2,6,7,17,19,20,21] rfl ?_;refine G.block rfl rfl ?_;refine G.loop (σ:=Nat) (fun i=>[(0,.string (bs s)),(2,.int .i64 a),(6,.pointer (some ⟨h.size,0,none⟩)),(7,.bool false),(19,.slice va l.length vc),(20,.int .i64 (l.length:Nat)),(21,.int .i64 (i:Nat))]) (fun i h'=>i≤l.length∧(l.drop i).find? (nameT a s.length)=l.find? (nameT a s.length)∧Blk h' h.size 35 (encTk (0,0,0))∧Ext0 h h') (fun i=>l.length-i) (0) rfl ⟨rfl,rfl,rfl,rfl,rfl,rfl,rfl,trivial⟩ ⟨Nat.zero_le _,rfl,k1,e1⟩ ?_;rintro i g ⟨hi,hf,kg,eg⟩ ih;have zg:=eg.size;have lg:=kg.lt;refine xrd Tryz.func26 1 [0,2,6,7,19,20,21,22] rfl ?_;refine G.seq rfl ?_;refine G.ite rfl rfl (fun hlt=>?_) (fun hlt=>?_)
     · have hlt':i<l.length:=by omega
       obtain⟨b,o,x,ha,_,hx,hrow⟩:=(hvs.mv (Mv.ext0 eg)).recd hlt';rw[find_drop1 hx] at hf;refine G.skip rfl ?_;refine G.seq rfl ?_;refine G.block rfl rfl ?_;refine xr Tryz.func26 rfl ?_;refine xp rfl (OpP.indexSlice Tryz.underlying25 H.sz35 rfl rfl i rfl ha (by omega)) ?_;refine xp rfl (OpP.loadRowN H.ag35 H.sz35 rfl hrow (by first|rfl|(simp;done)|(simp;omega))) ?_;refine xo rfl (OpX.allocN H.zr35) ?_;rintro _ h3 ⟨rfl,k3,e3,z3⟩;refine RW.op0 rfl rfl rfl (OpX.storeBlk H.sz35 rfl rfl k3 (by first|rfl|(simp;done)|(simp;omega)) (by first|decide|exact of_decide_eq_true rfl|(simp;done)|(simp;omega)) (tk_one x)) ?_;rintro _ h4 ⟨rfl,k4,x4,z4⟩;have k4:Blk h4 g.size 35 (encTk x):=k4;have e34:=Ext0.only e3 x4 (Nat.le_refl _);have kg4:=kg.ext0 e34;refine xd [0,2,6,7,9,19,20,21,22] rfl ?_;refine G.seq rfl ?_;refine G.regTo1 [(56,.bool (nameT a s.length x))] [(0,_),(2,_),(6,_),(7,_),(9,_),(19,_),(20,_),(21,_),(22,_)] ⟨rfl,rfl,rfl,rfl,rfl,rfl,rfl,rfl,rfl,trivial⟩ Tryz.func26 rfl ?_ ?_
       · refine xp rfl (OpP.fieldAddr (off:=0) Tryz.underlying35 rfl rfl H.sz3 rfl) ?_;refine xp rfl (OpP.load H.ag3 rfl (k4.cell (i:=0) rfl)) ?_;refine xqm 2 rfl ?_;refine RW.split (d:=28) rfl (fun d3=>?_) (fun d3=>?_)
         · have d3:=of_decide_eq_true d3;refine xqp 5 rfl rfl (OpP.fieldAddr (off:=1) Tryz.underlying35 rfl rfl H.sz3 rfl) ?_;refine xp rfl (OpP.load H.ag3 rfl (k4.cell (i:=1) rfl)) ?_;refine xqm 3 rfl ?_;refine RW.split (d:=38) rfl (fun c1=>?_) (fun c1=>?_)
           · have c1:=of_decide_eq_true c1;refine xp rfl (OpP.fieldAddr (off:=1) Tryz.underlying35 rfl rfl H.sz3 rfl) ?_;refine xp rfl (OpP.load H.ag3 rfl (k4.cell (i:=1) rfl)) ?_;refine xqm 4 rfl ?_;refine RW.split (d:=44) rfl (fun c2=>?_) (fun c2=>?_)
             · have c2:=of_decide_eq_true c2;refine xqp 1 rfl rfl (OpP.fieldAddr (off:=2) Tryz.underlying35 rfl rfl H.sz3 rfl) ?_;refine xp rfl (OpP.load H.ag3 rfl (k4.cell (i:=2) rfl)) ?_;refine xqm 3 rfl ?_;refine RW.split (d:=50) rfl (fun c3=>?_) (fun c3=>?_)
               · have c3:=of_decide_eq_true c3;refine xp rfl (OpP.fieldAddr (off:=2) Tryz.underlying35 rfl rfl H.sz3 rfl) ?_;refine xp rfl (OpP.load H.ag3 rfl (k4.cell (i:=2) rfl)) ?_;refine xqp 1 rfl rfl (OpP.lenString Tryz.underlying9 rfl) ?_;refine xqm 2 rfl ?_;refine RW.done rfl ?_;exact⟨rfl,at_bool rfl (by unfold nameT;rw[decide_eq_decide];omega),rfl,rfl,rfl,rfl,rfl,rfl,rfl,rfl,rfl,trivial⟩
               · have c3:=of_decide_eq_false c3;refine xqm 6 rfl ?_;refine RW.done rfl ?_;exact⟨rfl,at_bool rfl (by unfold nameT;rw[eq_comm,decide_eq_false];omega),rfl,rfl,rfl,rfl,rfl,rfl,rfl,rfl,rfl,trivial⟩
             · have c2:=of_decide_eq_false c2;refine xqm 12 rfl ?_;refine RW.done rfl ?_;exact⟨rfl,at_bool rfl (by unfold nameT;rw[eq_comm,decide_eq_false];omega),rfl,rfl,rfl,rfl,rfl,rfl,rfl,rfl,rfl,trivial⟩
           · have c1:=of_decide_eq_false c1;refine xqm 18 rfl ?_;refine RW.done rfl ?_;exact⟨rfl,at_bool rfl (by unfold nameT;rw[eq_comm,decide_eq_false];omega),rfl,rfl,rfl,rfl,rfl,rfl,rfl,rfl,rfl,trivial⟩
         · have d3:=of_decide_eq_false d3;refine xp rfl (OpP.fieldAddr (off:=0) Tryz.underlying35 rfl rfl H.sz3 rfl) ?_;refine xp rfl (OpP.load H.ag3 rfl (k4.cell (i:=0) rfl)) ?_;refine xqm 3 rfl ?_;refine RW.split (d:=33) rfl (fun d4=>?_) (fun d4=>?_)
           · have d4:=of_decide_eq_true d4;refine xp rfl (OpP.fieldAddr (off:=1) Tryz.underlying35 rfl rfl H.sz3 rfl) ?_;refine xp rfl (OpP.load H.ag3 rfl (k4.cell (i:=1) rfl)) ?_;refine xqm 3 rfl ?_;refine RW.split (d:=38) rfl (fun c1=>?_) (fun c1=>?_)
             · have c1:=of_decide_eq_true c1;refine xp rfl (OpP.fieldAddr (off:=1) Tryz.underlying35 rfl rfl H.sz3 rfl) ?_;refine xp rfl (OpP.load H.ag3 rfl (k4.cell (i:=1) rfl)) ?_;refine xqm 4 rfl ?_;refine RW.split (d:=44) rfl (fun c2=>?_) (fun c2=>?_)
               · have c2:=of_decide_eq_true c2;refine xqp 1 rfl rfl (OpP.fieldAddr (off:=2) Tryz.underlying35 rfl rfl H.sz3 rfl) ?_;refine xp rfl (OpP.load H.ag3 rfl (k4.cell (i:=2) rfl)) ?_;refine xqm 3 rfl ?_;refine RW.split (d:=50) rfl (fun c3=>?_) (fun c3=>?_)
                 · have c3:=of_decide_eq_true c3;refine xp rfl (OpP.fieldAddr (off:=2) Tryz.underlying35 rfl rfl H.sz3 rfl) ?_;refine xp rfl (OpP.load H.ag3 rfl (k4.cell (i:=2) rfl)) ?_;refine xqp 1 rfl rfl (OpP.lenString Tryz.underlying9 rfl) ?_;refine xqm 2 rfl ?_;refine RW.done rfl ?_;exact⟨rfl,at_bool rfl (by unfold nameT;rw[decide_eq_decide];omega),rfl,rfl,rfl,rfl,rfl,rfl,rfl,rfl,rfl,trivial⟩
                 · have c3:=of_decide_eq_false c3;refine xqm 6 rfl ?_;refine RW.done rfl ?_;exact⟨rfl,at_bool rfl (by unfold nameT;rw[eq_comm,decide_eq_false];omega),rfl,rfl,rfl,rfl,rfl,rfl,rfl,rfl,rfl,trivial⟩
               · have c2:=of_decide_eq_false c2;refine xqm 12 rfl ?_;refine RW.done rfl ?_;exact⟨rfl,at_bool rfl (by unfold nameT;rw[eq_comm,decide_eq_false];omega),rfl,rfl,rfl,rfl,rfl,rfl,rfl,rfl,rfl,trivial⟩
             · have c1:=of_decide_eq_false c1;refine xqm 18 rfl ?_;refine RW.done rfl ?_;exact⟨rfl,at_bool rfl (by unfold nameT;rw[eq_comm,decide_eq_false];omega),rfl,rfl,rfl,rfl,rfl,rfl,rfl,rfl,rfl,trivial⟩
           · have d4:=of_decide_eq_false d4;refine xqm 23 rfl ?_;refine RW.done rfl ?_;exact⟨rfl,at_bool rfl (by unfold nameT;rw[eq_comm,decide_eq_false];omega),rfl,rfl,rfl,rfl,rfl,rfl,rfl,rfl,rfl,trivial⟩
       · refine G.cond rfl rfl (fun hm=>?_) (fun hm=>?_)
         · rw[if_pos hm] at hf;rw[←hf];refine xr Tryz.func26 rfl ?_;refine xp rfl (OpP.loadRowN H.ag35 H.sz35 rfl k4.row (by first|rfl|(simp;done)|(simp;omega))) ?_;refine RW.op0 rfl rfl rfl (OpX.storeBlk H.sz35 rfl rfl kg4 (by first|rfl|(simp;done)|(simp;omega)) (by first|decide|exact of_decide_eq_true rfl|(simp;done)|(simp;omega)) (tk_one x)) ?_;rintro _ h5 ⟨rfl,k5,x5,z5⟩;refine xqd 1 [0,2,6,7,9,19,20,21,22,56] rfl ?_;have k5:Blk h5 h.size 35 (encTk x):=k5;refine G.retC Tryz.func26 rfl (.cons (ResOk.rowN H.ag35 H.sz35 rfl (k5.row) (by first|rfl|(simp;done)|(simp;omega))) (.cons (ResOk.tmp rfl) (.nil))) ?_;exact⟨_,rfl,rfl,Ext0.only (eg.trans e34) x5 (Nat.le_refl _)⟩
         · rw[if_neg (by rw[hm];decide)] at hf;refine G.skip rfl ?_;refine G.blkEnd ?_;refine G.reg Tryz.func26 rfl ?_;refine xp rfl (OpP.add64 rfl rfl ⟨by omega,by omega⟩) ?_;refine xqd 1 [0,2,6,7,9,19,20,21,22,56] rfl ?_;exact ih (i+1) _ _ ⟨rfl,rfl,rfl,rfl,rfl,rfl,rfl,trivial⟩ ⟨by omega,hf,kg4,eg.trans e34⟩ (by omega)
     · rw[List.drop_of_length_le (by omega),List.find?_nil] at hf;rw[←hf];refine G.exit rfl rfl ?_;refine xr Tryz.func26 rfl ?_;refine xp rfl (OpP.build (H.bd35_ ) rfl) ?_;refine RW.op0 rfl rfl rfl (OpX.storeBlk H.sz35 rfl rfl kg (by first|rfl|(simp;done)|(simp;omega)) (by first|decide|exact of_decide_eq_true rfl|(simp;done)|(simp;omega)) (by first|decide|simp[Value.oneCell'])) ?_;rintro _ h2 ⟨rfl,k2,x2,z2⟩;refine xqd 1 [0,2,6,7,19,20,21,22] rfl ?_;have k2:Blk h2 h.size 35 (encTk (0,0,0)):=k2;refine G.retC Tryz.func26 rfl (.cons (ResOk.rowN H.ag35 H.sz35 rfl (k2.row) (by first|rfl|(simp;done)|(simp;omega))) (.cons (ResOk.tmp rfl) (.nil))) ?_;exact⟨_,rfl,rfl,Ext0.only eg x2 (Nat.le_refl _)⟩
abbrev leX (x y:By):Bool:=decide (x≤y)
theorem clone_calls (hv:SlR eBy h O v xs) (hx:xs.length≤1000000) :
 CallsH Tryz.prog 50 #[v] h (Ret fun r h'=>OwE encT h' h.size 9 r xs∧Ext0 h h'):=by
 obtain⟨va,vn,vc,rfl,hvs⟩:=hv.open;have hl:xs.length=vn:=hvs.len;subst hl;refine CallsH.of Tryz.func50 rfl rfl ?_;refine xrd Tryz.func50 1 [0,2] rfl ?_;refine G.seq rfl ?_;refine xra Tryz.func50 1 rfl ?_;refine xp rfl (OpP.eqlNilS Tryz.underlying22 rfl rfl) ?_;refine xd [0,2,4] rfl ?_;refine G.cond rfl rfl (fun hn=>?_) (fun hn=>?_)
 · refine xrd Tryz.func50 1 [0,2,4] rfl ?_;refine G.ret Tryz.func50 rfl rfl ?_
   have hx0:xs=[]:=by
    have hva:va=none:=by simpa using hn
    rcases xs with _|⟨x,xs⟩
    · rfl
    · obtain⟨b,o,cs,ha,_⟩:=hvs.get 0 x rfl;rw[hva] at ha;cases ha
   subst hx0;exact⟨_,rfl,OwE.nil _ _ _ _,Ext.refl _ _⟩
 · refine G.skip rfl ?_;refine xr Tryz.func50 rfl ?_;refine xo rfl (OpX.buildEmpty Tryz.underlying22 H.el9) ?_;rintro _ h1 ⟨rfl,hh1⟩;have e1:Ext0 h h1:=by rw[hh1];exact Ext.push _ _ _
   have z1:h1.size=h.size+1:=by rw[hh1];simp
   have ho1:OwnH h1 h.size 9 1 (.slice (some ⟨h.size,0,none⟩) 0 0) 0 []:=by rw[hh1];exact OwnH.empty h _ 1 h.size (Nat.le_refl _)
   have hrow:=(hvs.mv (Mv.ext0 e1)).row;refine xqm 1 rfl ?_;refine xo rfl (OpX.append Tryz.underlying22 H.el9 rfl rfl ho1 (by simp) hrow (fun u hu=>by obtain⟨x,_,rfl⟩:=List.mem_map.1 hu;rfl) (by simp only[maxLen];omega) (by omega) (by omega)) ?_;rintro v2 h2 ⟨ho2,hx2,_,hv2⟩;refine xqd 1 [0,2,4] rfl ?_;refine G.ret Tryz.func50 rfl rfl ?_;refine⟨_,rfl,?_,Ext.own e1 ho1 (Nat.le_refl _) hx2⟩;have:OwnH h2 h.size 9 1 v2 (0+xs.length) ([]++xs.map encT):=ho2;rw[Nat.zero_add,List.nil_append] at this;exact this
theorem sort_calls {base:Nat}(ho:OwE encT h base 9 v xs) (hn:xs≠[]) (hl:xs.length≤1000000) :
 CallsH Tryz.prog 51 #[v] h (Ret fun r h'=>r= .tuple #[]∧OwE encT h' base 9 v (xs.mergeSort leX)∧Ext (but v.ownBlock) h h'):=by
 obtain⟨_,hc⟩:=ho
 rcases hc with ⟨rfl,h0⟩|⟨g,cap,cur,rfl,hb,hg,hnc,hcap,hsz,htk⟩
 · exact absurd (List.eq_nil_iff_length_eq_zero.2 h0) hn
 refine CallsH.ofBelow fun w hw=>?_
 subst hw;rw[Nat.mul_one] at htk;have hgl:g<w.heap.size:=(Array.getElem?_eq_some_iff.1 hg).1;refine(Tryz.slices_Sort_string g 0 cap xs w (holds_of_block hg htk) hgl (by omega)).mono ?_;rintro e w' ⟨rfl,n,os,rfl⟩;have hgr:=grownBy_sorted (w:=w) (g:=g) (n:=n) (os:=os) (xs.mergeSort leX).toArray;refine⟨_,rfl,⟨rfl,?_,ext_of_grown hgr⟩,hgr.os,hgr.tape,hgr.output⟩;have:=ownsRow_sorted (w:=w) (base:=base) (n:=n) (os:=os) (ss:=xs) (ts:=xs.mergeSort leX) (List.length_mergeSort _) hb hg hnc hcap hsz
 show OwnH _ _ _ _ _ _ _
 rw[List.length_mergeSort];exact this
theorem Sl.pre {α:Type}{e:Elt α}{oa:Option Addr}{n c:Nat}{ys zs:List α}(k:Sl e h O oa n c (ys++zs)):Sl e h O oa ys.length c ys :=
 ⟨rfl,by have:=k.len;have:=k.le;rw[List.length_append] at *;omega,k.cap,fun i x hx=>k.get i x (by rw[List.getElem?_append_left (List.getElem?_eq_some_iff.1 hx).1];exact hx)⟩
theorem compact_calls {base:Nat}(ho:OwE encT h base 9 v xs) (hn:xs≠[]) (hl:xs.length≤1000000) :
 CallsH Tryz.prog 52 #[v] h (Ret fun r h'=>SlR eBy h' (fun b=>b<base) r (Lib.compact xs)∧Ext (but v.ownBlock) h h'):=by
 obtain⟨_,hc⟩:=ho
 rcases hc with ⟨rfl,h0⟩|⟨g,cap,cur,rfl,hb,hg,hnc,hcap,hsz,htk⟩
 · exact absurd (List.eq_nil_iff_length_eq_zero.2 h0) hn
 refine CallsH.ofBelow fun w hw=>?_
 subst hw;rw[Nat.mul_one] at htk;have hgl:g<w.heap.size:=(Array.getElem?_eq_some_iff.1 hg).1;refine(Tryz.slices_Compact_string g 0 cap xs w (holds_of_block hg htk) (by omega) hnc).mono ?_;rintro e w' ⟨rfl,n,rfl⟩;obtain⟨ts,hts⟩:∃ts,ts=Lib.compact xs++List.replicate (xs.length-(Lib.compact xs).length) ([]:By):=⟨_,rfl⟩
 rw[←hts];have hcl:=Lib.compact_length_le xs;have htl:ts.length=xs.length:=by rw[hts,List.length_append,List.length_replicate];omega
 have hgr:=grownBy_sorted (w:=w) (g:=g) (n:=n) (os:= #[]) ts.toArray;have hro:=ownsRow_sorted (w:=w) (base:=base) (n:=n) (os:= #[]) (ss:=xs) (ts:=ts) htl hb hg hnc hcap hsz;have e0:Go.Sort.grow (Go.Sort.putRow encStr (Go.Sort.ahead w n) g 0 ts.toArray) #[]=Go.Sort.putRow encStr (Go.Sort.ahead w n) g 0 ts.toArray:=by simp[Go.Sort.grow,Go.Sort.putRow,Go.Sort.ahead]
 rw[e0] at hgr hro;refine⟨_,rfl,⟨?_,ext_of_grown hgr⟩,hgr.os,hgr.tape,hgr.output⟩
 have hown:OwE encT (Go.Sort.putRow encStr (Go.Sort.ahead w n) g 0 ts.toArray).heap base 9 (.slice (some ⟨g,0,none⟩) xs.length cap) ts:=by
  show OwnH _ _ _ _ _ _ _
  rw[htl];exact hro
 have hsl:SlR eBy _ (fun b=>b<base) (.slice (some ⟨g,0,none⟩) xs.length cap) ts:=OwE.read (h1:=fun _=>rfl) hown (fun b hb q=>by omega);exact(Sl.pre (zs:=List.replicate (xs.length-(Lib.compact xs).length) ([]:By)) (by rw[←hts];exact hsl.open_slice)).shut
end
end Go.Proofs.YtfegacfjgjaghaaGreatDoor
