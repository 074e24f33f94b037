import Derived.Test.YtockodmbhnlheaaGreatDoorAH
namespace Go.Proofs.YtockodmbhnlheaaGreatDoor
section
open Go.RowKit
section
variable {P:Program}
theorem zpO {ops:Array Oper} {o:Oper} {a:Act} {w:World} {K:Act→World→Prop} {Q:Exit→Act→World→Prop} {X:Prop} (hgd:o.guard=none) (s x:Operand) (t:TypeId)
  (ho:o.op=.call { callee:=.builtin .append,args:=#[s,x],argTypes:=#[t,t] }) (e k bytes:Nat) (E:Elem P t e k bytes) (g n cap:Nat)
  (hs:a.eval s=.slice (some ⟨g,0,none⟩) n cap) (ad:Addr) (m c:Nat) (hx:a.eval x=.slice (some ad) m c) (news:List Value) (hl:news.length=m * k) (hc:∀ j u,news[j]?=some u→w.cell? (ad.add j)=some u) (h1:∀ u ∈ news,u.oneCell'=true)
  (hroom:n + m ≤ cap) (cur:List Value) (hg:w.heap[g]?=some (.cells cur.toArray e (0,0))) (hfit:n * k + news.length ≤ cur.length) (B:Nat) (w0:World) (hb:Below B w0 w) (hBg:B ≤ g)
  (h:∀ w',Hid (w'.heap[g]?=some (.cells (splice cur (n * k) news).toArray e (0,0)))→Below B w0 w'→Hid (∀ j,j ≠ g→w'.heap[j]?=w.heap[j]?)→K (a.put o.dst (.slice (some ⟨g,0,none⟩) (n + m) cap)) w') :
  if Region.wanted o (yielded ops a.tmps)=true then Oper.wp P o a w K Q else X:=by
 obtain ⟨i,z,hi,_,hk,_⟩:=E.hi;rw [if_pos (show Region.wanted o (yielded ops a.tmps)=true by simp [Region.wanted,hgd])];subst hk;have hrun:=run_append_room (P:=P) w t o.type e i E.ht hi g n cap cur.toArray hg ad m c news hl hc h1 hroom (by simpa using hfit);unfold Oper.wp;simp [execOp,ho,resolve,invoke,builtin,hs,hx,hrun,Result.andThen];exact h _ (show _=_ by simpa [splice] using setRow_heap w g _ _ e _ hg) (below_setRow hb hBg _) (fun j hj=>setRow_other w g j _ hj)
theorem zox {t e k bytes:Nat} (E:Elem P t e k bytes) (zs:List Value) (hz:(P.info? e).map (fun i=>i.zero.map (fun z=>z.cells.toList))=some (some zs)) (h1:∀ u ∈ zs,u.oneCell'=true) (w:World) (g off n c:Nat) (hn:0 < n) (cur:List Value) (tg:TypeId)
  (hg:w.heap[g]?=some (.cells cur.toArray tg (0,0))) (hfit:off + n * k ≤ cur.length) (ty:TypeId) :
  ∃ Z,Z.length=n * k∧(Builtin.clear_ #[t] ty #[.slice (some ⟨g,off,none⟩) n c]).run P w=.ok (.tuple #[]) (w.setRow g (splice cur off Z).toArray):=by
 obtain ⟨i,z,hi,hz0,hk,_,hzk⟩:=E.hi;have hzc:z.cells.toList=zs:=by rw [hi,Option.map_some,hz0,Option.map_some] at hz;injection hz with hz;injection hz
 have hzv:(zeroValue e).run P w=.ok z w:=by simp [zeroValue,typeInfo,hi,hz0]
 have hlen:(Builtin.zeroCells z.cells n).toList.length=n * k:=by rw [Array.length_toList,size_zeroCells,hzk]
 have hone:∀ u ∈ (Builtin.zeroCells z.cells n).toList,u.oneCell'=true:=by
  intro u hu;simp only [Builtin.zeroCells,Array.toList_map,List.mem_map,Array.toList_range,List.mem_range] at hu;obtain ⟨j,hj,rfl⟩:=hu;have hpos:=E.pos;have hlt:j % z.cells.size < z.cells.size:=Nat.mod_lt _ (by omega);refine h1 _ ?_;rw [← hzc,getElem!_pos z.cells _ hlt];exact Array.getElem_mem_toList hlt
 have hst:=run_storeCells_at (P:=P) g off tg (Builtin.zeroCells z.cells n).toList 0 cur.toArray w hg (by simpa [hlen] using hfit) hone;refine ⟨(Builtin.zeroCells z.cells n).toList,hlen,?_⟩;obtain ⟨m,rfl⟩:∃ m,n=m + 1:=⟨n - 1,by omega⟩;simp only [Nat.add_zero] at hst;simp [Builtin.clear_,run_underlying E.ht,hzv,hst,splice]
theorem zgb {w:World} {ops:Array Oper} {rest:List Oper} {o:Oper} {a:Act} {Q:Exit→Act→World→Prop} (hgd:o.guard=none) (x:Operand) (t:TypeId)
  (ho:o.op=.call { callee:=.builtin .clear,args:=#[x],argTypes:=#[t] }) (e k bytes:Nat) (E:Elem P t e k bytes) (zs:List Value) (hz:(P.info? e).map (fun i=>i.zero.map (fun z=>z.cells.toList))=some (some zs)) (h1:∀ u ∈ zs,u.oneCell'=true) (g off n c:Nat)
  (hx:a.eval x=.slice (some ⟨g,off,none⟩) n c) (hn:0 < n) (OFF:Nat) (ho2:off=OFF) (cur:List Value) (tg:TypeId) (hg:w.heap[g]?=some (.cells cur.toArray tg (0,0))) (hfit:OFF + n * k ≤ cur.length) (B:Nat) (w0:World) (hb:Below B w0 w) (hBg:B ≤ g)
  (h:∀ w' Z,Z.length=n * k→Hid (w'.heap[g]?=some (.cells (splice cur OFF Z).toArray tg (0,0)))→Below B w0 w'→Hid (∀ j,j ≠ g→w'.heap[j]?=w.heap[j]?)→wpList P ops Q rest (a.put o.dst (.tuple #[])) w'):wpList P ops Q (o :: rest) a w:=by
 subst ho2;refine wpList_plain hgd fun K hK=>?_;obtain ⟨Z,hZ,hrun⟩:=zox E zs hz h1 w g off n c hn cur tg hg hfit o.type;unfold Oper.wp;simp [execOp,ho,resolve,invoke,builtin,hx,hrun,Result.andThen];exact hK _ _ (h _ Z hZ (show _=_ from setRow_heap w g _ _ tg _ hg) (below_setRow hb hBg _) fun j hj=>setRow_other w g j _ hj)
end
theorem zkp:(Tryz.prog.info? 32).map (fun i=>i.zero.map (fun z=>z.cells.toList))=some (some (zaa [zbs])):=by kernel_rfl
theorem zlK (L:List Od) (i:Nat):zaa (L.take i) ++ zaa (L.drop (i + 1))=zaa (L.eraseIdx i):=by
 rw [← zek,List.eraseIdx_eq_take_drop_succ]
set_option maxHeartbeats 2000000 in
set_option maxRecDepth 100000 in
theorem zpP (base g n c i:Nat) (L:List Od) (cur:List Value) (w:World) (hg:Blk w g 32 cur.toArray) (hcl:cur.length=c * 5) (hcur:cur.take (n * 5)=zaa L) (hnc:n ≤ c) (_hc:c ≤ maxLen)
  (hbg:base ≤ g) (hb:base ≤ w.heap.size) (hi:i < n) :
  Calls Tryz.prog 159 #[.slice (some ⟨g,0,none⟩) n c,.int .i64 i,.int .i64 ((i:Int) + 1)] w fun e w'=>∃ cur':List Value,e=.returned (.slice (some ⟨g,0,none⟩) (n - 1) c) ∧
   Blk w' g 32 cur'.toArray∧cur'.length=c * 5∧cur'.take ((n - 1) * 5)=zaa (L.eraseIdx i)∧Below base w w'∧Only w w' (some g):=by
 have hL:L.length=n:=by
  have h:=congrArg List.length hcur;rw [zao,List.length_take] at h;omega
 obtain ⟨news,hnews⟩:∃ news,news=zaa (L.drop (i + 1)):=⟨_,rfl⟩;have hlen:news.length=(n - (i + 1)) * 5:=by rw [hnews,zao,List.length_drop,hL]
 have hget:∀ t u,news[t]?=some u→cur[(i + 1) * 5 + t]?=some u:=by
  intro t u hu;have ht:=(List.getElem?_eq_some_iff.1 hu).1;rw [hnews,← zgs,← hcur,List.getElem?_drop,List.getElem?_take] at hu;split at hu
  ·exact hu
  ·cases hu
 obtain ⟨ad,hA,hsrc⟩:∃ ad:Addr,(if c=i + 1 then (some ⟨g,0,none⟩:Option Addr) else some ⟨g,(i + 1) * 5,none⟩)=some ad∧Hid (∀ t u,news[t]?=some u→w.drew.cell? (ad.add t)=some u):=by
  by_cases h:c=i + 1
  ·refine ⟨⟨g,0,none⟩,by simp [h],fun t u hu=>?_⟩;have h0:news.length=0:=by rw [hlen];omega
   rw [List.length_eq_zero_iff.1 h0] at hu;simp at hu
  ·refine ⟨⟨g,(i + 1) * 5,none⟩,by simp [h],fun t u hu=>?_⟩;rw [Addr.add_lit,Blk.cell (show Blk w.drew g 32 cur.toArray from hg)];simpa using hget t u hu
 have h1:Hid (∀ u ∈ news,u.oneCell'=true):=by rw [hnews];exact zbT _
 have hfit:i * 5 + news.length ≤ cur.length:=by rw [hlen,hcl];omega
 have HF:=zi (show ∀ Z:List Value,Z.length=5→(splice (splice cur (i * 5) news) ((n - 1) * 5) Z).length=c * 5∧(splice (splice cur (i * 5) news) ((n - 1) * 5) Z).take ((n - 1) * 5)=zaa (L.eraseIdx i) by
  intro Z hZ;have hl1:(splice cur (i * 5) news).length=c * 5:=by rw [length_splice _ _ _ hfit,hcl]
  refine ⟨by rw [length_splice _ _ _ (by rw [hl1,hZ];omega),hl1],?_⟩;have e1:(splice (splice cur (i * 5) news) ((n - 1) * 5) Z).take ((n - 1) * 5)=(splice cur (i * 5) news).take ((n - 1) * 5):=by
   unfold splice;rw [List.take_append_of_le_length (by simp only [List.length_take,List.length_append,List.length_drop];omega),List.take_take,Nat.min_self]
  rw [e1];unfold splice;have e2:cur.take (i * 5)=zaa (L.take i):=by
   rw [← zew,← hcur,List.take_take,Nat.min_eq_left (by omega)]
  rw [e2,← List.append_assoc,List.take_append_of_le_length (by rw [List.length_append,hlen,zao,List.length_take];omega),List.take_of_length_le (by rw [List.length_append,hlen,zao,List.length_take];omega),hnews,zlK])
 have HG:=zi (show w.drew.heap[g]?=some (.cells cur.toArray 32 (0,0)) from hg);have HL:=zi hlen;have HFIT:=zi hfit;have HS:=zi (show (splice cur (i * 5) news).length=c * 5 by rw [length_splice _ _ _ hfit,hcl]);have hBd:Below base w w.drew:=(zar (Below.refl _ _)).mono hb;clear hg hcl hcur hL hnews hlen hget hfit;unfold maxLen at _hc;have b1:¬ (c=i):=by omega
 have b2:¬ (c=n - 1):=by omega
 have b3:¬ ((i:Int)=(i:Int) + 1):=by omega
 have b4:(0:Int) ≤ (i:Int) + 1:=by omega
 have b5:(i:Int) + 1 ≤ (n:Int):=by omega
 have b6:((i:Int) + 1).toNat=i + 1:=by omega
 have b7:i + (n - (i + 1))=n - 1:=by omega
 have c1:i ≤ c:=by omega
 have c2:(i:Int) ≤ (c:Int):=by omega
 have c3:i + 1 ≤ n:=by omega
 have c4:i ≤ i + 1:=by omega
 have b8:n - (n - 1)=1:=by omega
 go_enter Tryz.func159,Tryz.ntmps159
 go_wp2_with fail
 go_region_law (refine zpO rfl (.tmp 22) (.tmp 25) 81 rfl 32 5 40 zcS g i c (by simp [Act.eval,Act.put]) ad (n - (i + 1)) (c - (i + 1)) (by simp [Act.eval,Act.put]) news HL.out hsrc.out h1.out (by omega) cur HG.out HFIT.out base w hBd hbg ?_;intro w1 HG1 hB1 HO1)
 go_wp2_with (refine zgb rfl (.tmp 31) 81 rfl 32 5 40 zcS _ zkp (zbT _) g ((n - 1) * 5) 1 (c - (n - 1)) (by rfl) (by omega) ((n - 1) * 5) rfl (splice cur (i * 5) news) 32 HG1.out (by rw [HS.out];omega) base w hB1 hbg ?_;intro w2 Z hZ HG2 hB2 HO2)
 have HZ:=HF.out Z hZ;have HX:=zi HZ;clear hZ HZ;go_wp2_with fail
 go_ret;exact ⟨_,rfl,HG2.out,HX.out.1,HX.out.2,hB2,fun k hk hne=>by
  have hk':k ≠ g:=fun e=>hne (by rw [e]);exact (HO2.out k hk').trans (HO1.out k hk')⟩
theorem zpQ (base:Nat) (v:Value) (n i:Nat) (L:List Od) (w:World) (hown:w.ownsRow base 32 5 v n (zaa L)) (hb:base ≤ w.heap.size) (hi:i < n) :
  Calls Tryz.prog 159 #[v,.int .i64 i,.int .i64 ((i:Int) + 1)] w fun e w'=>∃ v',e=.returned v'∧w'.ownsRow base 32 5 v' (n - 1) (zaa (L.eraseIdx i))∧v'.ownBlock=v.ownBlock∧Below base w w'∧Only w w' v.ownBlock:=by
 obtain ⟨hl,⟨rfl,h0⟩ | ⟨g,c,cur,rfl,hbg,hg,hnc,hcm,hcs,hct⟩⟩:=hown
 ·omega
 ·have hL:L.length=n:=by rw [zao] at hl;omega
  have hgb:Blk w g 32 cur.toList.toArray:=by rw [Array.toArray_toList];exact hg
  refine (zpP base g n c i L cur.toList w hgb (by rw [Array.length_toList];exact hcs) hct hnc hcm hbg hb hi).mono ?_;rintro e w' ⟨cur',rfl,h1,h2,h3,h4,h5⟩;refine ⟨_,rfl,⟨?_,.inr ⟨g,c,cur'.toArray,rfl,hbg,h1,by omega,hcm,by simpa using h2,by simpa using h3⟩⟩,rfl,h4,h5⟩;rw [zao,List.length_eraseIdx_of_lt (by omega),hL]
end
section
open Go.RowKit
def AccCells (w:World) (base:Nat):List Ac→List Value→Prop
 | [],xs=>xs = []
 | a :: L,xs=>∃ A c ys,xs=.int .i64 a.id :: .int .i64 a.bal :: .slice A a.pos.length c :: ys∧w.ownsRow base 3 1 (.slice A a.pos.length c) a.pos.length (ints a.pos)∧a.pos.length * 8 ≤ 140737488355328∧AccCells w base L ys
theorem AccCells.mono {w w':World} {base base':Nat} (hk:∀ v n xs,w.ownsRow base 3 1 v n xs→w'.ownsRow base' 3 1 v n xs):∀ {L:List Ac} {xs:List Value},AccCells w base L xs→AccCells w' base' L xs
 | [],_,h=>h
 | _ :: _,_,⟨A,c,ys,h1,h2,h3,h4⟩=>⟨A,c,ys,h1,hk _ _ _ h2,h3,h4.mono hk⟩
theorem AccCells.append {w:World} {base:Nat} {M:List Ac} {ys:List Value} (h2:AccCells w base M ys):∀ {L:List Ac} {xs:List Value},AccCells w base L xs→AccCells w base (L ++ M) (xs ++ ys)
 | [],_,h=>by
  have h:_ = []:=h;subst h;exact h2
 | _ :: _,_,⟨A,c,zs,h1,h3,h4,h5⟩=>by subst h1;exact ⟨A,c,zs ++ ys,rfl,h3,h4,AccCells.append h2 h5⟩
theorem AccCells.len {w:World} {base:Nat}:∀ {L:List Ac} {xs:List Value},AccCells w base L xs→xs.length=L.length * 3
 | [],_,h=>by
  have h:_ = []:=h;subst h;rfl
 | _ :: L,_,⟨A,c,zs,h1,_,_,h5⟩=>by subst h1;have:=h5.len;simp only [List.length_cons];omega
theorem AccCells.at_ {w:World} {base:Nat}:∀ {L:List Ac} {xs:List Value},AccCells w base L xs→∀ {i:Nat} {a:Ac},L[i]?=some a →
  ∃ A c,xs[i * 3]?=some (.int .i64 a.id)∧xs[i * 3 + 1]?=some (.int .i64 a.bal)∧xs[i * 3 + 2]?=some (.slice A a.pos.length c)∧w.ownsRow base 3 1 (.slice A a.pos.length c) a.pos.length (ints a.pos)∧a.pos.length * 8 ≤ 140737488355328
 | [],_,_,i,a,ha=>by simp at ha
 | _ :: _,_,⟨A,c,zs,h1,h3,h4,h5⟩,0,a,ha=>by
  subst h1;simp only [List.getElem?_cons_zero,Option.some.injEq] at ha;subst ha;exact ⟨A,c,rfl,rfl,rfl,h3,h4⟩
 | _ :: _,_,⟨A,c,zs,h1,h3,h4,h5⟩,i + 1,a,ha=>by
  subst h1;simp only [List.getElem?_cons_succ] at ha;obtain ⟨A',c',k1,k2,k3,k4⟩:=h5.at_ ha;refine ⟨A',c',?_,?_,?_,k4⟩
  ·rw [show (i + 1) * 3=i * 3 + 1 + 1 + 1 by omega];exact k1
  ·rw [show (i + 1) * 3 + 1=i * 3 + 1 + 1 + 1 + 1 by omega];exact k2
  ·rw [show (i + 1) * 3 + 2=i * 3 + 2 + 1 + 1 + 1 by omega];exact k3
theorem AccCells.one {w:World} {base:Nat}:∀ {L:List Ac} {xs:List Value},AccCells w base L xs→∀ u ∈ xs,u.oneCell'=true
 | [],_,h=>by
  have h:_ = []:=h;subst h;simp
 | _ :: L,_,⟨A,c,zs,h1,_,_,h5⟩=>by
  subst h1;intro u hu;simp only [List.mem_cons] at hu;rcases hu with rfl | rfl | rfl | hu
  ·rfl
  ·rfl
  ·rfl
  ·exact h5.one u hu
def OwnAccs (w:World) (base:Nat) (v:Value) (n:Nat) (L:List Ac):Prop:=∃ xs,w.ownsRow base 78 3 v n xs∧AccCells w base L xs
theorem OwnAccs.nil (w:World) (base:Nat):OwnAccs w base (.slice none 0 0) 0 []:=⟨[],World.ownsRow_nil _ _ _ _,rfl⟩
theorem OwnAccs.below {w w':World} {base n B:Nat} {v:Value} {L:List Ac} (h:OwnAccs w base v n L) (hb:Below B w w') (hB:w.heap.size ≤ B):OwnAccs w' base v n L:=by
 obtain ⟨xs,h1,h2⟩:=h;exact ⟨xs,zaf h1 hb hB,h2.mono fun _ _ _ h=>zaf h hb hB⟩
theorem zpR {w:World} {base base' e e' k k' n n':Nat} {v v':Value} {xs ys:List Value} (h:w.ownsRow base e k v n xs) (h':w.ownsRow base' e' k' v' n' ys) (hne:e ≠ e'):v.ownBlock=none∨v.ownBlock ≠ v'.ownBlock:=by
 obtain ⟨_,⟨rfl,_⟩ | ⟨g,cap,cur,rfl,_,hg,_⟩⟩:=h
 ·exact .inl rfl
 ·right;obtain ⟨_,⟨rfl,_⟩ | ⟨g',cap',cur',rfl,_,hg',_⟩⟩:=h'
  ·simp [Value.ownBlock]
  ·intro he;have:g=g':=by simpa [Value.ownBlock] using he
   subst this;rw [hg] at hg';injection hg' with hg';injection hg' with _ ht;exact hne ht
theorem OwnAccs.form {w:World} {base n:Nat} {v:Value} {L:List Ac} (h:OwnAccs w base v n L):∃ A c,v=.slice A n c:=zad h.choose_spec.1
theorem OwnAccs.len {w:World} {base n:Nat} {v:Value} {L:List Ac} (h:OwnAccs w base v n L):L.length=n:=by
 obtain ⟨xs,h1,h2⟩:=h;have:=h2.len;have:=h1.1;omega
theorem OwnAccs.snoc {w w':World} {base n:Nat} {v v':Value} {L:List Ac} {a:Ac} {A:Option Addr} {c:Nat} {xs:List Value} (h:w.ownsRow base 78 3 v n xs) (hc:AccCells w base L xs)
  (ha:w.ownsRow base 3 1 (.slice A a.pos.length c) a.pos.length (ints a.pos)) (hl:a.pos.length * 8 ≤ 140737488355328) (hg:w.grownBy w' v.ownBlock) (hown:w'.ownsRow base 78 3 v' (n + 1) (xs ++ [.int .i64 a.id,.int .i64 a.bal,.slice A a.pos.length c])) :
  OwnAccs w' base v' (n + 1) (L ++ [a]):=by
 refine ⟨_,hown,AccCells.append ?_ (hc.mono fun _ _ _ h1=>World.ownsRow.kept h1 hg (zpR h1 h (by decide)))⟩;exact ⟨A,c,[],rfl,World.ownsRow.kept ha hg (zpR ha h (by decide)),hl,rfl⟩
theorem OwnAccs.read {w:World} {base n c:Nat} {A:Option Addr} {L:List Ac} (h:OwnAccs w base (.slice A n c) n L):RdL ze0 w w.heap.size A n c L:=by
 have hl:=h.len;obtain ⟨xs,h1,h2⟩:=h;have hr:=Rd.of_own h1;refine ⟨hl,hr.le,hr.cap,hr.nil,fun hn=>?_⟩;obtain ⟨b,o,e,hb,hc⟩:=hr.at_ hn;refine ⟨b,o,e,hb,fun i a ha=>?_⟩;obtain ⟨A2,c2,k1,k2,k3,k4,k5⟩:=h2.at_ ha;exact ⟨A2,c2,hc _ _ k1,by rw [Nat.add_assoc];exact hc _ _ k2,by rw [Nat.add_assoc];exact hc _ _ k3,Rd.of_own k4,k5⟩
end
section
theorem zsZ {a b c s:Int} (h:zaB [a,b,c]=(s,0)):s=a + b + c∧zag a=true∧zag b=true∧zag c=true∧zag s=true:=by
 obtain ⟨h1,h2,h3⟩:=zfk _ _ _ h;refine ⟨by rw [h1];simp;omega,h2 a (by simp),h2 b (by simp),h2 c (by simp),h3 (by decide)⟩
theorem zl9 {a x:Ac} {m q p f:Int} (h:zaZ a m q p f=(x,0)) :
  zaj a.id a.bal a.pos a.pos.length=0∧(0 ≤ m∧m < (a.pos.length:Int))∧(-1000 ≤ q∧q ≤ 1000)∧(0 ≤ p∧p ≤ 10000)∧(-1000000000000 ≤ f∧f ≤ 1000000000000) ∧
   x=⟨a.id,a.bal - q * p - f,a.pos.set m.toNat (a.pos.getD m.toNat 0 + q)⟩∧zag (a.bal - q * p - f)=true∧(-1000 ≤ a.pos.getD m.toNat 0 + q∧a.pos.getD m.toNat 0 + q ≤ 1000)∧(-10000000 ≤ q * p∧q * p ≤ 10000000):=by
 unfold zaZ at h;split at h
 ·rename_i h1;injection h with _ h2;exact absurd h2 h1
 rename_i h1;split at h
 ·injection h with _ h2;omega
 rename_i h2;split at h
 ·rename_i h3;injection h with _ h4;exact absurd h4 h3
 rename_i h3;split at h
 ·rename_i h4;injection h with _ h5;exact absurd h5 h4
 rename_i h4;split at h
 ·injection h with _ h5;omega
 rename_i h5;rcases zcI q p with hw | ⟨hw,hq,hp,hb⟩
 ·rw [hw] at h3;simp at h3
 rw [hw] at h h4;simp only at h h4;obtain ⟨s,e,hs⟩:∃ s e,zaB [a.bal,-(q * p),-zcT f]=(s,e):=⟨_,_,rfl⟩;rw [hs] at h h4;simp only at h h4;have he:e=0:=by omega
 subst he;obtain ⟨e1,e2,e3,e4,e5⟩:=zsZ hs;rw [zaK] at e4;have hc:=zgZ f;have hf:-zcT f = -f:=by omega
 injection h with h6 _;refine ⟨by simpa using h1,by omega,hq,hp,by omega,?_,?_,by omega,hb⟩
 ·rw [← h6,e1,hf];have:a.bal + -(q * p) + -f=a.bal - q * p - f:=by omega
  rw [this]
 ·have:a.bal - q * p - f=s:=by omega
  rw [this];exact e5
def dot:List Int→List Int→Int
 | n :: l,k :: marks=>n * k + dot l marks
 | _,_=>0
theorem zkX:∀ {l marks:List Int},(zct l marks).2=0→(zct l marks).1.sum=dot l marks∧(l.length=marks.length→∀ k ∈ marks,0 ≤ k∧k ≤ 10000)
 | [],marks,_=>⟨by simp [zct,dot],fun h=>by have:=List.eq_nil_of_length_eq_zero h.symm;subst this;simp⟩
 | n :: l,[],_=>⟨by simp [zct,dot],fun h=>by simp at h⟩
 | n :: l,k :: marks,h=>by
  unfold zct at h ⊢;rcases zcI n k with hw | ⟨hw,hq,hp,hb⟩
  ·rw [hw] at h;simp at h
  rw [hw] at h ⊢;simp only at h ⊢;rw [if_neg (by simp)] at h ⊢;split at h
  ·rename_i h1;exact absurd h h1
  rename_i h1;rw [if_neg h1];obtain ⟨i1,i2⟩:=zkX (l:=l) (marks:=marks) (by simpa using h1);refine ⟨by simp [dot,i1],fun hl=>?_⟩;intro k' hk';rcases List.mem_cons.1 hk' with rfl | hk'
  ·exact hp
  ·exact i2 (by simpa using hl) k' hk'
theorem zpS {a:Ac} {marks:List Int} {n:Int} (h:zbv a marks=(n,0)) :
  zaj a.id a.bal a.pos marks.length=0∧n=a.bal + dot a.pos marks∧zag n=true∧∀ k ∈ marks,0 ≤ k∧k ≤ 10000:=by
 unfold zbv at h;split at h
 ·rename_i h1;injection h with _ h2;exact absurd h2 h1
 rename_i h1;split at h
 ·rename_i h2;injection h with _ h3;exact absurd h3 h2
 rename_i h2;have h1:zaj a.id a.bal a.pos marks.length=0:=by omega
 have h2:(zct a.pos marks).2=0:=by omega
 obtain ⟨w1,w2⟩:=zkX h2;obtain ⟨h3,_,h4⟩:=zfk _ _ _ h;have hl:=(zaw h1).2.2.1;refine ⟨h1,?_,h4 (by decide),w2 (by omega)⟩;rw [h3,List.sum_cons,w1];omega
theorem zjB {a x:Ac} {m q p f:Int} (h:zaZ a m q p f=(x,0)) :
  x.pos.length=a.pos.length∧(-1000000000000 ≤ a.bal∧a.bal ≤ 1000000000000)∧(-1000000000000 ≤ x.bal∧x.bal ≤ 1000000000000)∧(-1000 ≤ a.pos.getD m.toNat 0∧a.pos.getD m.toNat 0 ≤ 1000)∧(-1000 ≤ x.pos.getD m.toNat 0∧x.pos.getD m.toNat 0 ≤ 1000):=by
 obtain ⟨h1,h2,h3,h4,h5,rfl,h7,h8,h9⟩:=zl9 h;obtain ⟨_,_,_,g4,g5⟩:=zaw h1;have hk:m.toNat < a.pos.length:=by omega
 have e1:(a.pos.set m.toNat (a.pos.getD m.toNat 0 + q)).getD m.toNat 0=a.pos.getD m.toNat 0 + q:=by
  show ((a.pos.set m.toNat (a.pos.getD m.toNat 0 + q))[m.toNat]?).getD 0=_;rw [List.getElem?_set_self hk];rfl
 have g6:-1000 ≤ a.pos.getD m.toNat 0∧a.pos.getD m.toNat 0 ≤ 1000:=by
  have:=ze7 g5 (List.getElem?_eq_getElem hk);simpa [List.getD,hk] using this
 rw [zaK] at h7;simp only;rw [e1,List.length_set];exact ⟨rfl,g4,h7,g6,h8⟩
end
section
def zcu (w:Int):Int × Int:=if w ≤ 100000 then (10,5) else if w ≤ 1000000 then (20,10) else (50,25)
def zcb (x y:Int):List Int→List Int→Int × Int × Int
 | n :: l,k :: marks=>if (zaC (max n (-n)) k).2 ≠ 0 then (0,0,(zaC (max n (-n)) k).2)
  else zcb (x + (zbY (zaC (max n (-n)) k).1 (zcu (zaC (max n (-n)) k).1).1 100 true).1) (y + (zbY (zaC (max n (-n)) k).1 (zcu (zaC (max n (-n)) k).1).2 100 true).1) l marks
 | _,_=>(x,y,0)
def zb8 (a:Ac) (marks:List Int):Int × Int × Int :=
 if zaj a.id a.bal a.pos marks.length ≠ 0 then (0,0,zaj a.id a.bal a.pos marks.length) else zcb 0 0 a.pos marks
def zbF (a:Ac) (marks:List Int):Bool × Bool × Int :=
 if (zb8 a marks).2.2 ≠ 0 then (false,false,(zb8 a marks).2.2) else if (zbv a marks).2 ≠ 0 then (false,false,(zbv a marks).2)
 else (decide ((zb8 a marks).1 ≤ (zbv a marks).1),decide ((zb8 a marks).2.1 ≤ (zbv a marks).1),0)
def zlX (rest q:Int):Int:=if rest + q * ((-rest).tdiv q) < 0 then (if 0 < q then (-rest).tdiv q + 1 else (-rest).tdiv q - 1) else (-rest).tdiv q
def zcd (a:Ac) (marks:List Int) (market:Int):Int × Int :=
 if (zbv a marks).2 ≠ 0 then (0,(zbv a marks).2) else if market < 0∨(marks.length:Int) ≤ market then (0,5)
 else if a.pos.getD market.toNat 0=0 then (0,12)
 else (max 1 (min (zlX ((zbv a marks).1 - a.pos.getD market.toNat 0 * marks.getD market.toNat 0) (a.pos.getD market.toNat 0)) 10000),0)
structure Mk where
 book:Bk
 index:Int
 last:Int
def zjC:Mk:=⟨zaH,0,0⟩
def zaN (m:Mk):Int:=if zav m.book ≠ 0 then zav m.book else if m.index < 1∨10000 < m.index∨m.last < 0∨10000 < m.last then 3 else 0
def zd6 (m:Mk):Int:=match m.book.bids,m.book.asks with
 | x :: _,y :: _=>(x.price + y.price) / 2
 | _,_=>m.index
def zbx (m:Mk):Int:=if m.last=0 then m.index else m.last
def midI (a b c:Int):Int:=max (min a b) (min (max a b) c)
def ze1 (m:Mk):Int:=midI (m.index - m.index / 20) (midI m.index (zd6 m) (zbx m)) (m.index + m.index / 20)
def za9 (m:Mk):Int × Int:=if zaN m ≠ 0 then (0,zaN m) else (ze1 m,0)
def zdg:List Mk→List Int × Int
 | []=>([],0)
 | m :: l=>if (za9 m).2 ≠ 0 then ([],(za9 m).2) else if (zdg l).2 ≠ 0 then ([],(zdg l).2) else ((za9 m).1 :: (zdg l).1,0)
def zbG (l:List Mk):List Int × Int:=if l.length < 1∨2 < l.length then ([],2) else zdg l
theorem znR (w:Int):(0 ≤ (zcu w).1∧(zcu w).1 ≤ 50)∧(0 ≤ (zcu w).2∧(zcu w).2 ≤ 25)∧(zcu w).2 ≤ (zcu w).1:=by
 unfold zcu;split
 ·simp only;omega
 ·split <;> simp only <;> omega
theorem zix {w p:Int} (h1:0 ≤ w) (h2:w ≤ 10000000) (h3:0 ≤ p) (h4:p ≤ 50):zbY w p 100 true=((w * p + 99) / 100,0)∧(0 ≤ w * p∧w * p ≤ 500000000):=by
 have hn:(w * p).natAbs ≤ 10000000 * 50:=by rw [Int.natAbs_mul];exact Nat.mul_le_mul (by omega) (by omega)
 have hp:0 ≤ w * p:=Int.mul_nonneg h1 h3;unfold zbY;have hq:zc7 w p 100 true=(w * p + 99) / 100:=by
  simp only [zc7,if_true];generalize w * p=y at *;omega
 rw [if_pos (zge.2 ⟨by omega,by omega,by omega,by omega,by omega⟩),hq,if_pos (zaK.2 (by omega))];exact ⟨rfl,hp,by omega⟩
def zfs (n k:Int):Int:=(max n (-n) * k * (zcu (max n (-n) * k)).1 + 99) / 100
def zft (n k:Int):Int:=(max n (-n) * k * (zcu (max n (-n) * k)).2 + 99) / 100
theorem zkY {n k:Int} (h:(zaC (max n (-n)) k).2=0):zaC (max n (-n)) k=(max n (-n) * k,0)∧(-1000 ≤ n∧n ≤ 1000)∧(0 ≤ k∧k ≤ 10000)∧0 ≤ max n (-n) * k∧max n (-n) * k ≤ 10000000:=by
 rcases zcI (max n (-n)) k with hw | ⟨hw,hq,hp,hb⟩
 ·rw [hw] at h;simp at h
 ·exact ⟨hw,by omega,hp,Int.mul_nonneg (by omega) hp.1,hb.2⟩
theorem zma {n k x y:Int} {l marks:List Int}:zcb x y (n :: l) (k :: marks)=if (zaC (max n (-n)) k).2 ≠ 0 then (0,0,(zaC (max n (-n)) k).2) else zcb (x + zfs n k) (y + zft n k) l marks:=by
 unfold zcb;split
 ·rfl
 ·rename_i h;obtain ⟨hw,_,_,h1,h2⟩:=zkY (show (zaC (max n (-n)) k).2=0 by omega);rw [hw];simp only;obtain ⟨t1,t2,_⟩:=znR (max n (-n) * k);rw [(zix h1 h2 t1.1 t1.2).1,(zix h1 h2 t2.1 (by omega)).1];conv=>lhs;unfold zcb
  rfl
end
section
def zbd (l:List Ac):Int:=(l.map (·.bal)).sum
def za5 (market:Nat) (l:List Ac):Int:=(l.map fun a=>a.pos.getD market 0).sum
theorem zg0 (a:Ac) (l:List Ac):zbd (a :: l)=a.bal + zbd l:=by simp [zbd]
theorem zfP (m:Nat) (a:Ac) (l:List Ac):za5 m (a :: l)=a.pos.getD m 0 + za5 m l:=by simp [za5]
theorem zne {l:List Ac} {j:Nat} {a:Ac} (h:l[j]?=some a):zbd (l.take (j + 1))=zbd (l.take j) + a.bal:=by
 rw [List.take_add_one,h];simp [zbd]
theorem znf {l:List Ac} {j m:Nat} {a:Ac} (h:l[j]?=some a):za5 m (l.take (j + 1))=za5 m (l.take j) + a.pos.getD m 0:=by
 rw [List.take_add_one,h];simp [za5]
structure Settled (market mark rate:Int) (a b:Ac) (p:Int):Prop where
 pays:pays a market mark rate=(p,0)
 eq:b = { a with bal:=a.bal - p }
 money:zag b.bal=true
theorem zgp {x y z:Int} (h:zaB [x,y]=(z,0)):z=x + y∧zag z=true:=by
 have h1:=zfk _ _ _ h;exact ⟨by simpa using h1.1,h1.2.2 (by decide)⟩
theorem zkZ (market mark rate:Int):∀ (rest done out:List Ac) (left lf:Int),zdz market mark rate done left rest=(out,lf,0) →
  ∃ news,out=done ++ news∧news.length=rest.length∧(∀ (i:Nat) (a b:Ac),rest[i]?=some a→news[i]?=some b→∃ p,Settled market mark rate a b p)∧lf=left + zbd rest - zbd news ∧
   za5 market.toNat rest * (mark * rate) ≤ 10000 * (lf - left)∧10000 * (lf - left) ≤ za5 market.toNat rest * (mark * rate) + 9999 * (rest.length:Int)
 | [],done,out,left,lf,h=>by
  injection h with h1 h2;injection h2 with h2 _;subst h1 h2;exact ⟨[],by simp,rfl,by simp,by simp [zbd],by simp [za5],by simp [za5]⟩
 | a :: rest,done,out,left,lf,h=>by
  unfold zdz at h;split at h
  ·rename_i h1;injection h with _ h;injection h with _ h;exact absurd h h1
  ·rename_i h1;split at h
   ·rename_i h2;injection h with _ h;injection h with _ h;exact absurd h h2
   ·rename_i h2;obtain ⟨p,ep,hp⟩:∃ p ep,pays a market mark rate=(p,ep):=⟨_,_,rfl⟩;rw [hp] at h h1 h2;simp only [Classical.not_not] at h1 h2;subst h1;obtain ⟨q,eq,hq⟩:∃ q eq,zaB [a.bal,-p]=(q,eq):=⟨_,_,rfl⟩;simp only at h h2;rw [hq] at h h2;simp only at h h2;subst h2;obtain ⟨hq1,hq2⟩:=zgp hq;obtain ⟨news,h3,h4,h5,h6,h7,h8⟩:=zkZ market mark rate rest _ out _ lf h;refine ⟨{ a with bal:=q } :: news,by rw [h3];simp,by simp [h4],?_,?_,?_⟩
    ·intro i b c hb hc;cases i with
     | zero =>
      simp at hb hc;subst hb hc;exact ⟨p,hp,by rw [hq1];rfl,hq2⟩
     | succ i=>exact h5 i b c (by simpa using hb) (by simpa using hc)
    ·rw [zg0,zg0,h6,hq1];simp;omega
    ·obtain ⟨k1,k2,k3,k4,k5,k6,k7⟩:=zkn (show zdl a.id a.bal a.pos market mark rate=(p,0) from hp);rw [zjv k4 k3] at k7;injection k7 with k7 _;rw [zfP,Int.add_mul,List.length_cons];have e1:a.pos.getD market.toNat 0 * mark * rate=a.pos.getD market.toNat 0 * (mark * rate):=by rw [Int.mul_assoc]
     rw [e1] at k7;generalize a.pos.getD market.toNat 0 * (mark * rate)=y at *;generalize za5 market.toNat rest * (mark * rate)=s at *;omega
theorem ziP {L out:List Ac} {market mark rate left:Int} (h:zbQ L market mark rate=(out,left,0)) :
  out.length=L.length∧L.length ≤ 8∧(∀ (i:Nat) (a b:Ac),L[i]?=some a→out[i]?=some b→∃ p,Settled market mark rate a b p)∧zbd L=zbd out + left ∧
   (za5 market.toNat L ≠ 0∨0 ≤ left∧(left=0∨left < L.length)):=by
 unfold zbQ at h;split at h
 ·injection h with _ h;injection h with _ h;omega
 ·rename_i h8;obtain ⟨news,h3,h4,h5,h6,h7,h9⟩:=zkZ market mark rate L [] out 0 left h;rw [List.nil_append] at h3;subst h3;refine ⟨h4,by omega,h5,by omega,?_⟩;by_cases h0:za5 market.toNat L=0
  ·right;rw [h0] at h7 h9;simp at h7 h9;omega
  ·exact .inl h0
end
section
open Go.RowKit
set_option maxHeartbeats 400000 in
theorem zaX (n:Int) (w:World) :
  Calls Tryz.prog 19 #[.int .i64 n] w fun e w'=>e=.returned (.bool (zag n))∧w=w':=by
 by_cases h1:-1000000000000 ≤ n
 ·go_enter Tryz.func19,Tryz.ntmps19
  go_wp2
  go_ret;exact ⟨by simp [zag,h1],rfl⟩
 ·go_enter Tryz.func19,Tryz.ntmps19
  go_wp2
  go_ret;exact ⟨by simp [zag];omega,rfl⟩
set_option maxHeartbeats 400000 in
theorem zrv (n a b:Int) (up:Bool) (w:World) (h:zfX n a b=false) :
  Calls Tryz.prog 163 #[.int .i64 n,.int .i64 a,.int .i64 b,.bool up] w fun e w'=>e=.returned (.tuple #[.int .i64 0,.int .i64 3])∧w=w':=by
 have h0:zag n=false∨zag n=true∧a < -10000∨zag n=true∧-10000 ≤ a∧10000 < a∨zag n=true∧-10000 ≤ a∧a ≤ 10000∧b < 1∨zag n=true∧-10000 ≤ a∧a ≤ 10000∧1 ≤ b∧10000 < b:=by
  rw [← Bool.not_eq_true,zge] at h;rw [zaK,zm8];omega
 clear h;rcases h0 with h1 | ⟨h1,h2⟩ | ⟨h1,h2,h3⟩ | ⟨h1,h2,h3,h4⟩ | ⟨h1,h2,h3,h4,h5⟩;all_goals
  go_enter Tryz.func163,Tryz.ntmps163
  go_wp2_with (go_at_call 19;refine (zaX _ _).mono ?_;rintro e w' ⟨rfl,rfl⟩)
  go_ret2
  exact ⟨rfl,rfl⟩
theorem zfF {n a b q:Int} {up:Bool} (h:zfX n a b=true) (hq:zc7 n a b up=q):zbY n a b up=if zag q then (q,0) else (0,7):=by
 unfold zbY;rw [if_pos h,hq]
set_option maxHeartbeats 1000000 in
theorem zpT (n a b:Int) (up:Bool) (w:World) (h:zfX n a b=true) :
  Calls Tryz.prog 163 #[.int .i64 n,.int .i64 a,.int .i64 b,.bool up] w fun e w'=>e=.returned (.tuple #[.int .i64 (zbY n a b up).1,.int .i64 (zbY n a b up).2])∧w=w':=by
 obtain ⟨⟨h1,h2⟩,h3,h4,h5,h6⟩:=zge.1 h;have hM:=zaK.2 ⟨h1,h2⟩;obtain ⟨hb1,hb2⟩:=ztE h1 h2 h3 h4;by_cases h0:0 ≤ n * a
 ·obtain ⟨d1,d2⟩:=znN (n * a) b h0 h5;by_cases hr:n * a % b=0
  ·have HQ:=zi (zfF (up:=up) h (zgG h5 hr));have hr':(n * a % b != 0)=false:=by simpa using hr
   clear h hr;go_enter Tryz.func163,Tryz.ntmps163
   go_wp2_with (go_at_call 19;refine (zaX _ _).mono ?_;rintro e w' ⟨rfl,rfl⟩)
   all_goals (go_ret2;exact ⟨za6 (by rw [HQ.out];simp_all),rfl⟩)
  ·have hr':(n * a % b != 0)=true:=by simpa using hr
   have hp:0 < n * a:=by
    rcases Int.lt_or_eq_of_le h0 with h' | h'
    ·exact h'
    ·rw [← h'] at hr;simp at hr
   cases up
   ·have HQ:=zi (zfF (up:=false) h zkl);clear h hr;go_enter Tryz.func163,Tryz.ntmps163
    go_wp2_with (go_at_call 19;refine (zaX _ _).mono ?_;rintro e w' ⟨rfl,rfl⟩)
    all_goals (go_ret2;exact ⟨za6 (by rw [HQ.out];simp_all),rfl⟩)
   ·have HQ:=zi (zfF h (zl0 h5 hr));clear h hr;go_enter Tryz.func163,Tryz.ntmps163
    go_wp2_with (go_at_call 19;refine (zaX _ _).mono ?_;rintro e w' ⟨rfl,rfl⟩)
    all_goals (go_ret2;exact ⟨za6 (by rw [HQ.out];simp_all),rfl⟩)
 ·have hp:n * a < 0:=by omega
  have hp':¬ 0 < n * a:=by omega
  have hd:decide (0 < n * a)=false:=by simpa using hp'
  obtain ⟨d1,d2⟩:=zsM (n * a) b hp h5;by_cases hr:(n * a).tmod b=0
  ·have HQ:=zi (zfF (up:=up) h (zju hp h5 hr));have hr':((n * a).tmod b != 0)=false:=by simpa using hr
   clear h hr;go_enter Tryz.func163,Tryz.ntmps163
   go_wp2_with (go_at_call 19;refine (zaX _ _).mono ?_;rintro e w' ⟨rfl,rfl⟩)
   all_goals (go_ret2;exact ⟨za6 (by rw [HQ.out];simp_all),rfl⟩)
  ·have hr':((n * a).tmod b != 0)=true:=by simpa using hr
   cases up
   ·have HQ:=zi (zfF h (zkm hp h5 hr));clear h hr;go_enter Tryz.func163,Tryz.ntmps163
    go_wp2_with (go_at_call 19;refine (zaX _ _).mono ?_;rintro e w' ⟨rfl,rfl⟩)
    all_goals (go_ret2;exact ⟨za6 (by rw [HQ.out];simp_all),rfl⟩)
   ·have HQ:=zi (zfF h (zl1 hp));clear h hr;go_enter Tryz.func163,Tryz.ntmps163
    go_wp2_with (go_at_call 19;refine (zaX _ _).mono ?_;rintro e w' ⟨rfl,rfl⟩)
    all_goals (go_ret2;exact ⟨za6 (by rw [HQ.out];simp_all),rfl⟩)
theorem zhC (n a b:Int) (up:Bool) (w:World) :
  Calls Tryz.prog 163 #[.int .i64 n,.int .i64 a,.int .i64 b,.bool up] w fun e w'=>e=.returned (.tuple #[.int .i64 (zbY n a b up).1,.int .i64 (zbY n a b up).2])∧w=w':=by
 cases h:zfX n a b
 ·have e0:zbY n a b up=(0,3):=by simp [zbY,h]
  rw [e0];exact zrv n a b up w h
 ·exact zpT n a b up w h
theorem zmb {s z:Int} {l:List Int} {j:Nat} (hz:l[j]?=some z):zeJ s (l.drop j)=if zag z then (if zag (s + z) then zeJ (s + z) (l.drop (j + 1)) else (0,7)) else (0,3):=by
 have hj:=(List.getElem?_eq_some_iff.1 hz).1;rw [List.drop_eq_getElem_cons hj,zeJ,(List.getElem?_eq_some_iff.1 hz).2]
set_option maxHeartbeats 1000000 in
theorem zdX (A:Option Addr) (n c:Nat) (l:List Int) (B:Nat) (w:World) (h:Rd w B 1 A n c (ints l)) :
  Calls Tryz.prog 92 #[.slice A n c] w fun e w'=>e=.returned (.tuple #[.int .i64 (zaB l).1,.int .i64 (zaB l).2])∧w=w':=by
 have hcap:=h.cap;have hle:=h.le;have HL:=zi h.ofInts;unfold maxLen at hcap;go_enter Tryz.func92,Tryz.ntmps92
 go_wp2_with fail
 go_loop [4,9] (fun s i=>∃ (j:Nat) (t:Int),j ≤ n∧s=.int .i64 t∧i=.int .i64 j∧(-1000000000000 ≤ t∧t ≤ 1000000000000)∧Hid (zeJ t (l.drop j)=zaB l)) (fun _ i=>n - (intOf i).toNat)
 case atStart=>exact ⟨0,0,Nat.zero_le _,rfl,rfl,by omega,rfl⟩
 case round =>
  obtain ⟨j,t,hj,rfl,rfl,ht,HA⟩:=hrel;obtain ⟨ht1,ht2⟩:=ht;by_cases hlt:j < n
  ·obtain ⟨b,o,rfl,hb,z,hz,hc⟩:=h.int hlt;have HS:=zi (zmb (s:=t) hz);clear hz;cases hm:zag z
   ·have HE:=zi (show zaB l=(0,3) by rw [← HA.out,HS.out,hm];rfl);clear HS HA;go_wp2_with (go_at_call 19;refine (zaX _ _).mono ?_;rintro e w' ⟨rfl,rfl⟩)
    go_ret2
    exact ⟨za6 (by rw [HE.out]),rfl⟩
   ·obtain ⟨hz1,hz2⟩:=zaK.1 hm;cases hm':zag (t + z)
    ·have HE:=zi (show zaB l=(0,7) by rw [← HA.out,HS.out,hm,hm'];rfl);clear HS HA;go_wp2_with (go_at_call 19;refine (zaX _ _).mono ?_;rintro e w' ⟨rfl,rfl⟩)
     go_ret2
     exact ⟨za6 (by rw [HE.out]),rfl⟩
    ·have HE:=zi (show zeJ (t + z) (l.drop (j + 1))=zaB l by rw [← HA.out,HS.out,hm,hm'];rfl);have HT:=zi (zaK.1 hm');clear HS HA;go_wp2_with (go_at_call 19;refine (zaX _ _).mono ?_;rintro e w' ⟨rfl,rfl⟩)
     go_round
     case rel=>exact ⟨j + 1,t + z,by omega,rfl,by go_num,HT.out,HE⟩
     case measure=>simp [intOf];omega
  ·have hjn:j=n:=by omega
   have HE:=zi (show zaB l=(t,0) by rw [← HA.out,hjn,List.drop_eq_nil_of_le (by have:=HL.out;omega)];rfl);clear HA hjn;go_wp2_with (go_at_call 19;refine (zaX _ _).mono ?_;rintro e w' ⟨rfl,rfl⟩)
   go_ret2
   exact ⟨za6 (by rw [HE.out]),rfl⟩
def zet (a b c:Int):Int:=max (min a b) (min (max a b) c)
set_option maxHeartbeats 400000 in
theorem zeM (a b c:Int) (w:World) :
  Calls Tryz.prog 138 #[.int .i64 a,.int .i64 b,.int .i64 c] w fun e w'=>e=.returned (.int .i64 (zet a b c))∧w=w':=by
 go_enter Tryz.func138,Tryz.ntmps138
 go_wp2_with fail
 all_goals (go_ret;exact ⟨zay (by unfold zet;omega),rfl⟩)
set_option maxHeartbeats 400000 in
theorem zc3 (q p:Int) (w:World) :
  Calls Tryz.prog 133 #[.int .i64 q,.int .i64 p] w fun e w'=>e=.returned (.tuple #[.int .i64 (zaC q p).1,.int .i64 (zaC q p).2])∧w=w':=by
 cases h:zhb q p
 ·have HE:=zi (show zaC q p=(0,3) by unfold zaC;rw [h];rfl);have h0:q < -1000∨-1000 ≤ q∧1000 < q∨-1000 ≤ q∧q ≤ 1000∧p < 0∨-1000 ≤ q∧q ≤ 1000∧0 ≤ p∧10000 < p:=by
   rw [← Bool.not_eq_true,zfN] at h;omega
  clear h;rcases h0 with h1 | ⟨h1,h2⟩ | ⟨h1,h2,h3⟩ | ⟨h1,h2,h3,h4⟩;all_goals
   go_enter Tryz.func133,Tryz.ntmps133
   go_wp2_with fail
   go_ret2
   exact ⟨za6 (by rw [HE.out]),rfl⟩
 ·have HE:=zi (show zaC q p=(q * p,0) by unfold zaC;rw [h];rfl);obtain ⟨h1,h2,h3,h4⟩:=zfN.1 h;obtain ⟨b1,b2⟩:=zhu h1 h2 h3 h4;clear h;go_enter Tryz.func133,Tryz.ntmps133
  go_wp2_with fail
  go_ret2
  exact ⟨za6 (by rw [HE.out]),rfl⟩
end
end Go.Proofs.YtockodmbhnlheaaGreatDoor
